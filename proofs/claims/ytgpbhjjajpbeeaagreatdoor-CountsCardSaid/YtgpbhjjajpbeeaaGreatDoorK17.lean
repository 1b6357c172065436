/- A part of what the last file proves. -/
import Derived.Test.YtgpbhjjajpbeeaaGreatDoorK09
import Derived.Test.YtgpbhjjajpbeeaaGreatDoorK16
set_option linter.all false
set_option maxRecDepth 100000
set_option maxHeartbeats 1600000
namespace Go.Proofs.YtgpbhjjajpbeeaaGreatDoor
section
open Go.RowKit Go.Lib Go.Maps Dk Pl
def b0h(n:Int)(s:Sg):Prop:=(s.tail.length:Int)<=n/\20*(s.recs.length:Int)<=n/\∀r∈s.recs,(r.key.size:Int)<=n/\(r.val.size:Int)<=n
def b0i(n:Int)(s:Sg)(j:Nat):Prop:=(s.tail.length:Int)<=n/\20*(j:Int)<=n/\∀r∈s.recs.take j,(r.key.size:Int)<=n/\(r.val.size:Int)<=n
def b5J(n:Int)(s:Ot):Prop:=(s.name.size:Int)<=n/\(s.bytes.length:Int)<=n
theorem b0h.mono{n m:Int}{s:Sg}(h:b0h n s)(k:n<=m):b0h m s:=
 ⟨by have:=h.1;omega,by have:=h.2.1;omega,fun r hr=>by have:=h.2.2 r hr;omega⟩
theorem b0i.step{n m:Int}{s:Sg}{j:Nat}{r:Rc}(h:b0i n s j)(hr:s.recs[j]?=some r)(hm:m=n+20+r.key.size+r.val.size)(hn:0<=n):b0i m s (j+1):=by
 refine⟨by have:=h.1;omega,by have:=h.2.1;omega,fun x hx=>?_⟩;rw[List.take_add_one,hr] at hx;rcases List.mem_append.1 hx with hx|hx
 ·have:=h.2.2 x hx;omega
 ·simp at hx;subst hx;omega
theorem b0i.all{n:Int}{s:Sg}(h:b0i n s s.recs.length):b0h n s:=⟨h.1,h.2.1,fun r hr=>h.2.2 r (by rw[List.take_length];exact hr)⟩
theorem b0j{α:Type}{p:α->Prop}{l:List α}{i:Nat}{x:α}(h:∀s∈l.take i,p s)(hx:l[i]?=some x)(hp:p x):∀s∈l.take (i+1),p s:=by
 intro s hs;rw[List.take_add_one,hx] at hs;rcases List.mem_append.1 hs with hs|hs
 ·exact h s hs
 ·simp at hs;subst hs;exact hp
def a1i(d:Dr)(w:World)(e:Ending)(w':World):Prop:=∃b:Bool,e=.returned (.bool b)/\(b=true->d.Small)/\Ext w w'
theorem a1i.no{d:Dr}{w w':World}(h:Ext w w'):a1i d w (.returned (.bool false)) w':=⟨false,rfl,⟨fun h=>(by cases h),h⟩⟩
theorem b7C(v:Value)(d:Dr)(w:World)(h:b0V w v d)(hf:d.Fits 281474976710656):
 Calls Tryz.prog 12 #[v] w (a1i d w):=by
 obtain⟨v0,v1,v3,rfl,h0,h1,h3⟩:=h;obtain⟨a0,c0,rfl,hl0,hm0⟩:=h0.form;obtain⟨a1,c1,rfl,hl1,hm1⟩:=h1.form;obtain⟨a3,c3,rfl,hl3,hm3,-⟩:=h3.open;have hE0:∀o,Ext w (w.alloc o):=fun o=>(Ext.refl w).new o;have H0:=Lib.hid h0;have H1:=Lib.hid h1;have HF:=Lib.hid hf;have HE0:=Lib.hid hE0;clear h0 h1 h3 hf hE0;by_cases k0:60<d.segs.length
 ·go_enter Tryz.func12,Tryz.ntmps12
  go_wp2;go_ret;exact a1i.no (HE0.out _)
 by_cases k1:300<d.others.length
 ·go_enter Tryz.func12,Tryz.ntmps12
  go_wp2;go_ret;exact a1i.no (HE0.out _)
 by_cases k2:40000<d.spoilt.length
 ·go_enter Tryz.func12,Tryz.ntmps12
  go_wp2;go_ret;exact a1i.no (HE0.out _)
 obtain⟨w0,hw0⟩:∃w0,w.alloc (.cells #[.slice a0 d.segs.length c0,.slice a1 d.others.length c1,.int .u64 d.gen,.slice a3 d.spoilt.length c3,.bool d.whole,.bool d.without] 27)=w0:=⟨_,rfl⟩;have hb0:j6 w0 w.heap.size 27 #[.slice a0 d.segs.length c0,.slice a1 d.others.length c1,.int .u64 d.gen,.slice a3 d.spoilt.length c3,.bool d.whole,.bool d.without]:=hw0▸j6.new _ _ rfl;have hEw:Ext w w0:=hw0▸HE0.out _;have b0:=(hb0.cell 0).trans (show _=some (Value.slice a0 d.segs.length c0) from rfl);have b1:=(hb0.cell 1).trans (show _=some (Value.slice a1 d.others.length c1) from rfl);have HEW:=Lib.hid hEw;have HW0:=Lib.hid hw0;clear hEw HE0 hw0 hb0;have HB0:=Lib.hid b0;have HB1:=Lib.hid b1;go_enter Tryz.func12,Tryz.ntmps12
 go_wp2;rw[HW0.out];go_loopw [3,4] (fun n i wr=>∃(k:Nat)(z:Int),k<=d.segs.length/\i=.int .i64 k/\n=.int .i64 z/\0<=z/\z<=40000+k*281474976710656/\(∀s∈d.segs.take k,b0h z s)/\Ext w0 wr) (fun _ i _=>d.segs.length - (intOf i).toNat)
 case atStart=>exact⟨0,0,by omega,rfl,rfl,by omega,by omega,by simp,Ext.refl w0⟩
 case round=>
  obtain⟨k,z,hk,rfl,rfl,hz0,hz1,hseg,hE⟩:=hrel;have e0:=hE.cell b0;have e1:=hE.cell b1;have hEw:=HEW.out.trans hE;clear b0 b1;have HSEG:=Lib.hid hseg;have HE:=Lib.hid hE;have HEWR:=Lib.hid hEw;clear hseg hE hEw;by_cases hlt:k<d.segs.length
  ·obtain⟨s,hs⟩:∃s,d.segs[k]?=some s:=⟨_,List.getElem?_eq_getElem hlt⟩;have hsm:=List.mem_of_getElem? hs;have hft:=HF.out.tail s hsm;have hfr:=HF.out.recs s hsm;obtain⟨b,rfl,u1,u2,-,s1,s2,-,-,hrec,htail⟩:=(H0.out.ext fun _ _=>a88.ext HEWR.out).at hs;obtain⟨ra,rc,rfl,hrc,hrc'⟩:=hrec.form;obtain⟨ta,tc,rfl,htc,htc',-⟩:=htail.open;have HREC:=Lib.hid hrec;have HS1:=Lib.hid s1;have HS:=Lib.hid hs;have HFR:=Lib.hid hfr;clear hrec htail hs hsm hfr;go_wp2;go_loopw [3,5] (fun n i wq=>∃(j:Nat)(y:Int),j<=s.recs.length/\i=.int .i64 j/\n=.int .i64 y/\z<=y/\(y<=40000\/y<=z+281474976710656)/\b0i y s j/\Ext wr wq) (fun _ i _=>s.recs.length - (intOf i).toNat)
   case atStart=>exact⟨0,z+s.tail.length,by omega,rfl,by go_num,by omega,by omega,⟨by omega,by omega,by simp⟩,Ext.refl _⟩
   case round=>
    obtain⟨j,y,hj,rfl,rfl,hy0,hy1,hto,hEq⟩:=hrel;have d0:=hEq.cell e0;have d1:=hEq.cell e1;have t1:=hEq.cell s1;have hEw:=HEWR.out.trans hEq;clear e0 e1 s1 s2;have HTO:=Lib.hid hto;have HEQ:=Lib.hid hEq;have HEWQ:=Lib.hid hEw;clear hto hEq hEw;by_cases hjl:j<s.recs.length
    ·obtain⟨r,hr⟩:∃r,s.recs[j]?=some r:=⟨_,List.getElem?_eq_getElem hjl⟩;obtain⟨hk1,hv1⟩:=HFR.out r (List.mem_of_getElem? hr);obtain⟨bb,rfl,-,r1,r2,-⟩:=(HREC.out.ext fun _ _=>b0T.ext HEQ.out).at hr;have HR:=Lib.hid hr;clear hr;obtain⟨y2,hy2⟩:∃y2,y+20+r.key.size+r.val.size=y2:=⟨_,rfl⟩;have hst:=HTO.out.step HR.out hy2.symm (by omega);have HST:=Lib.hid hst;clear hst;go_wp2_with fail
     go_quiet (fail)
     by_cases hbig:40000<y2
     ·go_wp2;go_ret;exact a1i.no (HEWQ.out.trans (Ext.drewN _ nq))
     ·go_wp2;go_roundw
      case rel=>exact⟨j+1,y2,by omega,by go_num,by go_num,by omega,by omega,HST.out,HEQ.out.trans (Ext.drewN _ nq)⟩
      case measure=>simp[intOf];omega
    ·obtain rfl:j=s.recs.length:=by omega
     have hall:=b0j (fun s hs=>(HSEG.out s hs).mono hy0) HS.out HTO.out.all;have HALL:=Lib.hid hall;clear hall;go_wp2;go_roundw
     case rel=>exact⟨k+1,y,by omega,by go_num,rfl,by omega,by omega,HALL.out,HE.out.trans HEQ.out⟩
     case measure=>simp[intOf];omega
  ·obtain rfl:k=d.segs.length:=by omega
   have hsegs:∀s∈d.segs,b0h z s:=by have:=HSEG.out;rwa [List.take_length] at this
   have HSG:=Lib.hid hsegs;clear hsegs;go_wp2;go_loopw [3,6] (fun n i wq=>∃(k:Nat)(y:Int),k<=d.others.length/\i=.int .i64 k/\n=.int .i64 y/\z<=y/\(y<=40000\/y=z)/\(∀s∈d.others.take k,b5J y s)/\Ext wr wq) (fun _ i _=>d.others.length - (intOf i).toNat)
   case atStart=>exact⟨0,z,by omega,rfl,rfl,by omega,by omega,by simp,Ext.refl _⟩
   case round=>
    obtain⟨k,y,hk,rfl,rfl,hy0,hy1,hoth,hEq⟩:=hrel;have d1:=hEq.cell e1;have hEw:=HEWR.out.trans hEq;clear e0 e1;have HOT:=Lib.hid hoth;have HEQ:=Lib.hid hEq;have HEWQ:=Lib.hid hEw;clear hoth hEq hEw;by_cases hlt:k<d.others.length
    ·obtain⟨s,hs⟩:∃s,d.others[k]?=some s:=⟨_,List.getElem?_eq_getElem hlt⟩;have hsm:=List.mem_of_getElem? hs;obtain⟨hf1,hf2⟩:=HF.out.other s hsm;obtain⟨b,rfl,u2,o0,-,o2,hby⟩:=(H1.out.ext fun _ _=>b0U.ext HEWQ.out).at hs;obtain⟨ta,tc,rfl,htc,htc',-⟩:=hby.open;obtain⟨y2,hy2⟩:∃y2,y+s.bytes.length+s.name.size=y2:=⟨_,rfl⟩;have hst:=b0j (p:=b5J y2) (fun s hs=>⟨by have:=(HOT.out s hs).1;omega,by have:=(HOT.out s hs).2;omega⟩) hs ⟨by omega,by omega⟩;have HST:=Lib.hid hst;clear hst hs hsm hby;go_wp2_with fail
     go_quiet (fail)
     by_cases hbig:40000<y2
     ·go_wp2;go_ret;exact a1i.no (HEWQ.out.trans (Ext.drewN _ nq))
     ·go_wp2;go_roundw
      case rel=>exact⟨k+1,y2,by omega,by go_num,by go_num,by omega,by omega,HST.out,HEQ.out.trans (Ext.drewN _ nq)⟩
      case measure=>simp[intOf];omega
    ·obtain rfl:k=d.others.length:=by omega
     have hother:∀s∈d.others,b5J y s:=by have:=HOT.out;rwa [List.take_length] at this
     have hfin:a1i d w (.returned (.bool (decide (y<=40000)))) wr:=by
      refine⟨_,rfl,fun h=>?_,HEWQ.out⟩;have hyl:=of_decide_eq_true h;refine⟨by omega,by omega,by omega,fun s hs=>?_,fun s hs=>?_,fun s hs=>?_⟩
      ·have:=(HSG.out s hs).1;omega
      ·have h1:=HSG.out s hs;refine⟨by have:=h1.2.1;omega,fun r hr=>?_⟩;have:=h1.2.2 r hr;omega
      ·have:=hother s hs;unfold b5J at this;omega
     have HFN:=Lib.hid hfin;clear hfin hother;go_wp2;go_ret;exact HFN.out
end
section
open Go.RowKit Go.Lib Go.Maps Dk
namespace Dk
def D.swept(d:D)(ids:List Int)(k:Nat):D:=(d.removeAll ((d.list.take k).filter fun n=>!a2d ids n)).2
structure Sw(d:D)(ids:List Int)(k:Nat):Prop where
 ok:d.removeAll ((d.list.take k).filter fun n=>!a2d ids n)=(.ok,d.swept ids k)
 now:(d.swept ids k).now=o9 d.now (((d.list.take k).filter fun n=>!a2d ids n).map fun n=>(n,none))
 moves:(d.swept ids k).moves=d.moves++((d.list.take k).filter fun n=>!a2d ids n).map fun n=>[(n,none)]
 calm:(d.swept ids k).Calm
theorem D.Calm.sw{d:D}(h:d.Calm)(hn:(d.now.map (·.1)).Nodup)(ids:List Int)(k:Nat):Sw d ids k:=by
 have hr:=h.removeAll ((d.list.take k).filter fun n=>!a2d ids n) (((a7L hn).sublist (List.take_sublist _ _)).filter _) (fun n hm=>by
  have:=List.mem_of_mem_take (List.mem_filter.1 hm).1;rwa [a2c] at this)
 have e:d.swept ids k={d with now:=o9 d.now (((d.list.take k).filter fun n=>!a2d ids n).map fun n=>(n,none)),moves:=d.moves++((d.list.take k).filter fun n=>!a2d ids n).map fun n=>[(n,none)]}:=by
  unfold D.swept;rw[hr]
 exact⟨by rw[hr,e],by rw[e],by rw[e],by rw[e];exact h⟩
theorem b6M{d:D}(h:d.Calm)(hnd:(d.now.map (·.1)).Nodup)(ids:List Int):d.sweep ids=(d.swept ids d.list.length).syncDir:=by
 have s:=h.sw hnd ids d.list.length;have h1:=s.ok;rw[List.take_length] at h1;unfold D.sweep;rw[h1]
end Dk
end
section
open Go.RowKit Go.Lib Go.Maps Dk
namespace Dk
structure D.Fit(d:D):Prop where
 data:∀x∈d.ids,(d.node x).data.length<=1099511627776
 len:d.now.length<=400
 names:∀p∈d.now,p.1.length<=1000000
theorem b8F(l:List (Nm×Nat))(ns:List Nm):(o9 l (ns.map fun n=>(n,none))).length<=l.length:=by
 induction ns generalizing l with
 | nil=>exact Nat.le_refl _
 | cons n ns ih=>exact Nat.le_trans (ih (a2H l n)) (List.length_filter_le _ _)
theorem D.Fit.sweep{d:D}(h:d.Fit)(hs:d.Safe)(ids:List Int):(d.sweep ids).2.Fit:=by
 obtain⟨e,he,-,-,hids,-,hnode⟩:=hs.sweep ids;have hnow:(d.sweep ids).2.now=o9 d.now (((d.list.take d.list.length).filter fun n=>!a2d ids n).map fun n=>(n,none)):=by
  have hsw:=hs.calm.sw hs.nodup ids d.list.length;rw[b6M hs.calm hs.nodup ids,hsw.calm.syncDir];exact hsw.now
 refine⟨fun x hx=>?_,?_,fun p hp=>?_⟩
 ·rw[he] at hx⊢;dsimp only at hx⊢;rw[hids] at hx;rw[hnode];exact h.data x hx
 ·rw[hnow];exact Nat.le_trans (b8F _ _) h.len
 ·rw[hnow] at hp;rcases a0u hp with hp|⟨x,hx,e⟩
  ·exact h.names p hp
  ·obtain⟨n,-,rfl⟩:=List.mem_map.1 hx;cases e
theorem D.Safe.stepped{d:D}(h:d.Safe)(dir:Nat):d.stepped dir=d.safe:=by unfold D.stepped;rw[h.moves];simp
end Dk
end
section
open Go.RowKit Go.Lib Go.Maps Dk Pl
noncomputable def I1(n:Nat):Code:=Code.behind n (Tryz.f4.body.getD .skip)
noncomputable def M3(n:Nat):Code:=Code.head (I1 n)
theorem c4i:I1 0=.seq (M3 0) (I1 1):=by kernel_rfl
theorem c4j:I1 1=.seq (M3 1) (I1 2):=by kernel_rfl
theorem c4k:I1 2=.seq (M3 2) (I1 3):=by kernel_rfl
theorem c4l:I1 3=.seq (M3 3) (I1 4):=by kernel_rfl
theorem c4m:I1 4=.seq (M3 4) (I1 5):=by kernel_rfl
def QC0(T:Array Value)(v:Value)(w:World):Exit->Act->World->Prop
 | .normal,a',w'=>a'=⟨(T.setIfInBounds 3 (.pointer (some ⟨w.heap.size,0,none⟩))).setIfInBounds 6 (.bool false),[]⟩/\w'=w.alloc (.cells v.cells 27)
 | _,_,_=>False
theorem c2Z(T:Array Value)(v0 v1 v2 v3 v4 v5:Value)(w:World)(hT:T.size=150)(h0:T[0]?=some (.agg #[v0,v1,v2,v3,v4,v5])):(M3 0).wp Tryz.prog (QC0 T (.agg #[v0,v1,v2,v3,v4,v5]) w) ⟨T,[]⟩ w:=by
 obtain⟨_,h0'⟩:=Array.getElem?_eq_some_iff.1 h0;clear h0;unfold M3 I1;simp only[Code.behind,Code.head,Tryz.f4,Option.getD_some];go_wp2_with fail
 exact⟨rfl,rfl⟩
def QC1(T:Array Value)(x:Value)(d:Dr)(w:World):Exit->Act->World->Prop
 | .normal,a',w'=>∃b:Bool,a'=⟨((T.setIfInBounds 23 x).setIfInBounds 24 (.bool b)).setIfInBounds 7 (.bool b),[]⟩/\(b=true->d.Small)/\Ext w w'
 | _,_,_=>False
theorem c22(T:Array Value)(xb:Nat)(v0 v1 v3:Value)(d:Dr)(w:World)(hT:T.size=150)(h3:T[3]?=some (.pointer (some ⟨xb,0,none⟩)))(hb:j6 w xb 27 #[v0,v1,.int .u64 d.gen,v3,.bool d.whole,.bool d.without])
 (h:b0V w (.agg #[v0,v1,.int .u64 d.gen,v3,.bool d.whole,.bool d.without]) d)(hf:d.Fits 281474976710656):
 (M3 1).wp Tryz.prog (QC1 T (.agg #[v0,v1,.int .u64 d.gen,v3,.bool d.whole,.bool d.without]) d w) ⟨T,[]⟩ w:=by
 obtain⟨_,h3'⟩:=Array.getElem?_eq_some_iff.1 h3;have b0:=(hb.cell 0).trans (show _=some v0 from rfl);have b1:=(hb.cell 1).trans (show _=some v1 from rfl);have b2:=(hb.cell 2).trans (show _=some (Value.int .u64 d.gen) from rfl);have b3:=(hb.cell 3).trans (show _=some v3 from rfl);have b4:=(hb.cell 4).trans (show _=some (Value.bool d.whole) from rfl);have b5:=(hb.cell 5).trans (show _=some (Value.bool d.without) from rfl);have hsm:=b7C _ d w h hf;have HSM:=Lib.hid hsm;clear h3 hb h hf hsm;unfold M3 I1;simp only[Code.behind,Code.head,Tryz.f4,Option.getD_some];go_wp2_with fail
 refine HSM.out.mono ?_;rintro e w1 ⟨b,rfl,hsmall,hE1⟩;have HS:=Lib.hid hsmall;have HE:=Lib.hid hE1;clear hsmall hE1;go_wp2;exact⟨b,rfl,HS.out,HE.out⟩
def QC2(T:Array Value)(w:World):Exit->Act->World->Prop
 | .normal,a',w'=>T[7]?=some (.bool true)/\a'=⟨(T.setIfInBounds 25 (.bool true)).setIfInBounds 26 (.bool false),[]⟩/\w'=w
 | .ret,a',w'=>a'.defers=[]/\a'.tmps[6]?=some (.bool true)/\w'=w
 | _,_,_=>False
theorem c25(T:Array Value)(b:Bool)(w:World)(hT:T.size=150)(h7:T[7]?=some (.bool b)):(M3 2).wp Tryz.prog (QC2 T w) ⟨T,[]⟩ w:=by
 obtain⟨_,h7'⟩:=Array.getElem?_eq_some_iff.1 h7;unfold M3 I1;simp only[Code.behind,Code.head,Tryz.f4,Option.getD_some]
 cases b with
 | true=>
  have H:=Lib.hid h7;clear h7;go_wp2_with fail
  refine wp_cond (t:=false) (by simp[Act.eval,hT]) ?_;go_wp2_with fail
  exact⟨H.out,rfl,rfl⟩
 | false=>
  clear h7;go_wp2_with fail
  refine wp_cond (t:=true) (by simp[Act.eval,hT]) ?_;go_wp2_with fail
  exact⟨rfl,by simp[hT],rfl⟩
def QC3(T:Array Value)(x:Value)(w:World):Exit->Act->World->Prop
 | .normal,a',w'=>∃(a:Nat)(F:Nat->Prop)(D:Dk.D),a'=⟨((T.setIfInBounds 27 x).setIfInBounds 28 (l7 a)).setIfInBounds 8 (l7 a),[]⟩/\o8 w' F a D/\D.Safe/\D.Fit/\Ext w w'/\∀b,F b->w.heap.size<=b
 | _,_,_=>False
theorem c26(T:Array Value)(xb:Nat)(v0 v1 v3:Value)(d:Dr)(w:World)(hT:T.size=150)(h3:T[3]?=some (.pointer (some ⟨xb,0,none⟩)))(hb:j6 w xb 27 #[v0,v1,.int .u64 d.gen,v3,.bool d.whole,.bool d.without])
 (h:b0V w (.agg #[v0,v1,.int .u64 d.gen,v3,.bool d.whole,.bool d.without]) d)(hs:d.Small)(hL:Laid w):
 (M3 3).wp Tryz.prog (QC3 T (.agg #[v0,v1,.int .u64 d.gen,v3,.bool d.whole,.bool d.without]) w) ⟨T,[]⟩ w:=by
 obtain⟨_,h3'⟩:=Array.getElem?_eq_some_iff.1 h3;have b0:=(hb.cell 0).trans (show _=some v0 from rfl);have b1:=(hb.cell 1).trans (show _=some v1 from rfl);have b2:=(hb.cell 2).trans (show _=some (Value.int .u64 d.gen) from rfl);have b3:=(hb.cell 3).trans (show _=some v3 from rfl);have b4:=(hb.cell 4).trans (show _=some (Value.bool d.whole) from rfl);have b5:=(hb.cell 5).trans (show _=some (Value.bool d.without) from rfl);have hdk:=b9k _ d w h hs hL;have HDK:=Lib.hid hdk;clear h3 hb h hs hL hdk;unfold M3 I1;simp only[Code.behind,Code.head,Tryz.f4,Option.getD_some];go_wp2_with fail
 refine HDK.out.mono ?_;rintro e w2 ⟨a,F,D,rfl,hD,hsafe,hdat,hlen,hnam,hE2,hF⟩;have hfin:o8 w2 F a D/\D.Safe/\D.Fit/\Ext w w2/\∀b,F b->w.heap.size<=b:=⟨hD,hsafe,⟨hdat,hlen,hnam⟩,hE2,hF⟩;have HF:=Lib.hid hfin;clear hfin hD hsafe hdat hlen hnam hE2 hF;unfold l7;go_wp2;exact⟨a,F,D,rfl,HF.out⟩
end
section
open Go.RowKit Go.Lib Pl
theorem a3p{l:List UInt8}{r:Rec}(h:dec l=some r):17<=r.size/\r.size<=l.length:=by
 unfold dec at h;split at h
 ·rename_i hg;injection h with h;subst h;unfold good at hg;simp only[Bool.and_eq_true,decide_eq_true_eq] at hg;obtain⟨h1,-,h3,-⟩:=hg;dsimp only;omega
 ·cases h
def J3:Nat->Nat->List UInt8->List (Nat×Rec)
 | 0,_,_=>[]
 | n+1,off,l=>match dec (l.drop off) with
  | none=>[]
  | some r=>(off,r)::J3 n (off+r.size) l
def A9(l:List UInt8):List (Nat×Rec):=J3 (l.length+1) 0 l
def I4(seg:Int)(p:Nat×Rec):List Value:=[.int .i64 seg,.int .i64 p.1,.int .i64 p.2.size,.int .u64 p.2.seq,.string ⟨p.2.key.toArray⟩,.string ⟨p.2.val.toArray⟩,.bool p.2.del]
theorem a4h{n off:Nat}{l:List UInt8}(h:dec (l.drop off)=none):J3 n off l=[]:=by
 cases n with
 | zero=>rfl
 | succ n=>simp[J3,h]
theorem b3L:(Tryz.prog.info? 160).map (fun i=>(i.zero,i.size,i.bytes))=some (some (.agg #[.int .i64 0,.int .i64 0,.int .i64 0,.int .u64 0,.string ⟨#[]⟩,.string ⟨#[]⟩,.bool false]),7,72):=by kernel_rfl
theorem b9f(seg:Int)(v:Value)(l:List UInt8)(w:World)(h:Bytes w v l)(hl:l.length<=1099511627776):
 Calls Tryz.prog 61 #[.int .i64 seg,v] w fun e w'=>∃u,e=.returned u/\w'.ownsRow w.heap.size 160 7 u (A9 l).length ((A9 l).flatMap (I4 seg))/\Ext w w':=by
 obtain⟨i0,hi,hz0,hz1,hz2⟩:=info_parts b3L;obtain⟨a,cap,rfl,hc1,hc2,hcell⟩:=id h;have H:=Lib.hid h;clear h hcell;go_enter Tryz.func61,Tryz.ntmps61
 go_wp2;go_loopw [5,6] (fun u o wr=>∃(rs:List (Nat×Rec))(off n:Nat),o=.int .i64 off/\off<=l.length/\rs.length<=off/\A9 l=rs++J3 n off l/\l.length<n+off/\wr.ownsRow w.heap.size 160 7 u rs.length (rs.flatMap (I4 seg))/\Ext w wr) (fun _ o _=>l.length - (intOf o).toNat)
 case atStart=>exact⟨[],0,l.length+1,rfl,by omega,by simp,rfl,by omega,⟨rfl,Or.inl ⟨rfl,rfl⟩⟩,Ext.refl w⟩
 case round=>
  obtain⟨rs,off,n,rfl,hoff,hrs,hsc,hn,hown,hE⟩:=hrel;have hb1:=(H.out.ext hE).sliced off l.length hoff (Nat.le_refl _);rw[List.take_length] at hb1;have HN:=Lib.hid hn;have HSC:=Lib.hid hsc;have HO:=Lib.hid hown;have HE:=Lib.hid hE;have HB:=Lib.hid hb1;have HRS:=Lib.hid hrs;clear hn hsc hown hE hb1 hrs;go_wp2_with fail
  all_goals
   have HBo:=HB.out
   first
    | (rw[if_pos ‹cap=off›,show cap - off=0 by omega] at HBo)
    | rw[if_neg ‹¬cap=off›] at HBo
   refine(b3z _ (l.drop off) wr HBo).mono ?_;rintro e w1 ⟨rfl,hE1⟩;clear HBo HB
   cases hd:dec (l.drop off) with
   | none=>
    have hX:j6 (w1.alloc (.cells #[.int .u64 0,.string ⟨#[]⟩,.string ⟨#[]⟩,.bool false] 111)) w1.heap.size 111 #[.int .u64 0,.string ⟨#[]⟩,.string ⟨#[]⟩,.bool false]:=j6.new _ _ rfl;have e0:=(HSC.out).trans (by rw[a4h hd,List.append_nil]);have hown:=Dep.row HO.out (w1.alloc (.cells #[.int .u64 0,.string ⟨#[]⟩,.string ⟨#[]⟩,.bool false] 111)) fun b hb=>(hE1.new (.cells #[.int .u64 0,.string ⟨#[]⟩,.string ⟨#[]⟩,.bool false] 111)).block b (World.ownsRow.lt HO.out b hb).2;have hE2:Ext w (w1.alloc (.cells #[.int .u64 0,.string ⟨#[]⟩,.string ⟨#[]⟩,.bool false] 111)):=(Ext.trans HE.out hE1).new _;have HOW:=Lib.hid hown;have HE2:=Lib.hid hE2;have E0:=Lib.hid e0;clear hown hE2 e0 hX hE1;unfold a1w Z6 Q6;go_wp2_with fail
    exact bodyPost_ret (v:=u5) (by simp[results,Tryz.results61]) rfl ⟨u5,rfl,by rw[E0.out];exact HOW.out,HE2.out⟩
   | some r=>
    obtain⟨hr1,hr2⟩:=a3p hd;rw[List.length_drop] at hr2
    first
    | (exfalso;omega)
    | skip
      have hn:=HN.out;obtain⟨m,rfl⟩:∃m,n=m+1:=⟨n - 1,by omega⟩;have e0:A9 l=(rs++[(off,r)])++J3 m (off+r.size) l:=by
       rw[HSC.out,List.append_assoc];simp[J3,hd]
      have hX:j6 (w1.alloc (.cells #[.int .u64 r.seq,.string ⟨r.key.toArray⟩,.string ⟨r.val.toArray⟩,.bool r.del] 111)) w1.heap.size 111 #[.int .u64 r.seq,.string ⟨r.key.toArray⟩,.string ⟨r.val.toArray⟩,.bool r.del]:=j6.new _ _ rfl;have hown:=Dep.row HO.out (w1.alloc (.cells #[.int .u64 r.seq,.string ⟨r.key.toArray⟩,.string ⟨r.val.toArray⟩,.bool r.del] 111)) fun b hb=>(hE1.new (.cells #[.int .u64 r.seq,.string ⟨r.key.toArray⟩,.string ⟨r.val.toArray⟩,.bool r.del] 111)).block b (World.ownsRow.lt HO.out b hb).2;have hE2:Ext w (w1.alloc (.cells #[.int .u64 r.seq,.string ⟨r.key.toArray⟩,.string ⟨r.val.toArray⟩,.bool r.del] 111)):=(Ext.trans HE.out hE1).new _;obtain⟨ua,uc,rfl⟩:=ownsRow_form HO.out;have hsz:w.heap.size<=(w1.alloc (.cells #[.int .u64 r.seq,.string ⟨r.key.toArray⟩,.string ⟨r.val.toArray⟩,.bool r.del] 111)).heap.size:=hE2.size;have hrl:=HRS.out;have HOW:=Lib.hid hown;have HE2:=Lib.hid hE2;have E0:=Lib.hid e0;have HX:=Lib.hid hX;have HE1:=Lib.hid hE1;clear hown hE2 e0 hX hE1 HN HSC HO;unfold a1w
      have hsz2:w.heap.size<=w1.heap.size+2:=by have:(w1.alloc (.cells #[.int .u64 r.seq,.string ⟨r.key.toArray⟩,.string ⟨r.val.toArray⟩,.bool r.del] 111)).heap.size=w1.heap.size+1:=by simp
                                                omega
      have hnw:((w1.alloc (.cells #[.int .u64 r.seq,.string ⟨r.key.toArray⟩,.string ⟨r.val.toArray⟩,.bool r.del] 111)).alloc (.cells #[.int .i64 seg,.int .i64 off,.int .i64 r.size,.int .u64 r.seq,.string ⟨r.key.toArray⟩,.string ⟨r.val.toArray⟩,.bool r.del] 160)).heap[w1.heap.size+1]?=some (.cells #[.int .i64 seg,.int .i64 off,.int .i64 r.size,.int .u64 r.seq,.string ⟨r.key.toArray⟩,.string ⟨r.val.toArray⟩,.bool r.del] 160):=by
       have e:(w1.alloc (.cells #[.int .u64 r.seq,.string ⟨r.key.toArray⟩,.string ⟨r.val.toArray⟩,.bool r.del] 111)).heap.size=w1.heap.size+1:=by simp
       rw[<-e];exact heap_alloc_new _ _
      go_wp2_with (at_builtin;go_must (refine p8 rfl _ _ 151 rfl w.heap.size 160 i0 (.agg #[.int .i64 0,.int .i64 0,.int .i64 0,.int .u64 0,.string ⟨#[]⟩,.string ⟨#[]⟩,.bool false]) 7 72 Tryz.underlying151 hi hz0 hz1 hz2 rfl (by omega) (.slice ua rs.length uc) rs.length _ rfl (World.ownsRow.alloc HOW.out (.cells #[.int .i64 seg,.int .i64 off,.int .i64 r.size,.int .u64 r.seq,.string ⟨r.key.toArray⟩,.string ⟨r.val.toArray⟩,.bool r.del] 160)) (.slice (some ⟨w1.heap.size+1,0,none⟩) 1 1) 1 [.int .i64 seg,.int .i64 off,.int .i64 r.size,.int .u64 r.seq,.string ⟨r.key.toArray⟩,.string ⟨r.val.toArray⟩,.bool r.del] rfl ⟨_,_,rfl,by omega,⟨by omega,fun h=>by cases h⟩,fun _=>⟨_,rfl,World.news_of_block (cs:=#[.int .i64 seg,.int .i64 off,.int .i64 r.size,.int .u64 r.seq,.string ⟨r.key.toArray⟩,.string ⟨r.val.toArray⟩,.bool r.del]) (t:=160) (fr:=(0,0)) hnw⟩⟩ rfl (by simp[Value.oneCell']) (by unfold maxLen;omega) (by omega) (by simp;omega) ?_);intro b6 c6 w6 hown6 hgrow6 hat6;have HO6:=Lib.hid hown6;have HG6:=Lib.hid hgrow6;clear hown6 hgrow6 hat6)
      go_roundw
      case rel=>
       refine⟨rs++[(off,r)],off+r.size,m,by go_num,by omega,by simp;omega,E0.out,by omega,?_,?_⟩
       ·have:=HO6.out;rw[List.length_append,List.flatMap_append];simpa [I4] using this
       ·refine Below.grown (HE2.out.new _) HG6.out (by simp;omega) (fun j hj=>?_);have:=(World.ownsRow.lt HOW.out j hj).1;omega
      case measure=>simp[intOf];omega
end
section
open Go.RowKit Go.Lib Pl
def a2L(p:Nat×Rec):List Value:=[.int .u64 p.2.seq,.string ⟨p.2.key.toArray⟩,.string ⟨p.2.val.toArray⟩,.bool p.2.del,.int .i64 p.2.size]
def sliceLen:Value->Nat
 | .slice _ n _=>n
 | _=>0
theorem b7z:(Tryz.prog.info? 116).map (fun i=>(i.zero,i.size,i.bytes))=some (some (.agg #[.int .u64 0,.string ⟨#[]⟩,.string ⟨#[]⟩,.bool false,.int .i64 0]),5,56):=by kernel_rfl
theorem b2P(v:Value)(l:List UInt8)(w:World)(h:Bytes w v l)(hl:l.length<=1099511627776):
 Calls Tryz.prog 69 #[v] w fun e w'=>∃u,e=.returned u/\w'.ownsRow w.heap.size 116 5 u (A9 l).length ((A9 l).flatMap a2L)/\Ext w w':=by
 obtain⟨i0,hi,hz0,hz1,hz2⟩:=info_parts b7z;have H:=Lib.hid h;clear h;go_enter Tryz.func69,Tryz.ntmps69
 go_wp2;go_loopw [0,3] (fun b u wr=>∃(rs:List (Nat×Rec))(off n:Nat),Bytes w b (l.drop off)/\off<=l.length/\rs.length<=off/\A9 l=rs++J3 n off l/\l.length<n+off/\wr.ownsRow w.heap.size 116 5 u rs.length (rs.flatMap a2L)/\Ext w wr) (fun b _ _=>sliceLen b)
 case atStart=>exact⟨[],0,l.length+1,H.out,by omega,by simp,rfl,by omega,⟨rfl,Or.inl ⟨rfl,rfl⟩⟩,Ext.refl w⟩
 case round=>
  obtain⟨rs,off,n,hb,hoff,hrs,hsc,hn,hown,hE⟩:=hrel;obtain⟨ba,bc,rfl,hbc,hbc2,-⟩:=id hb;have hdl:(l.drop off).length=l.length - off:=List.length_drop;rw[hdl] at hbc hb⊢;have HN:=Lib.hid hn;have HSC:=Lib.hid hsc;have HO:=Lib.hid hown;have HE:=Lib.hid hE;have HB:=Lib.hid hb;have HRS:=Lib.hid hrs;clear hn hsc hown hE hb hrs;go_wp2_with fail
  refine(a9m _ (l.drop off) wr (HB.out.ext HE.out)).mono ?_;rintro e w1 ⟨rfl,hE1⟩
  cases hd:dec (l.drop off) with
  | none=>
   have hfin:∀wz,Ext w1 wz->(World.ownsRow wz w.heap.size 116 5 u3 (A9 l).length ((A9 l).flatMap a2L)/\Ext w wz):=fun wz hz=>by
    have e0:=(HSC.out).trans (by rw[a4h hd,List.append_nil]);rw[e0];exact⟨Dep.row HO.out wz fun b hb=>(hE1.trans hz).block b (World.ownsRow.lt HO.out b hb).2,HE.out.trans (hE1.trans hz)⟩
   have HF:=Lib.hid hfin;clear hfin hE1 HB HN HSC HO HE;unfold I7 V7;go_wp2_with fail
   exact bodyPost_ret (v:=u3) (by simp[results,Tryz.results69]) rfl ⟨u3,rfl,HF.out _ ((Ext.refl w1).new _)⟩
  | some r=>
   obtain⟨hr1,hr2⟩:=a3p hd;rw[hdl] at hr2;have hn:=HN.out;obtain⟨m,rfl⟩:∃m,n=m+1:=⟨n - 1,by omega⟩;have e0:A9 l=(rs++[(off,r)])++J3 m (off+r.size) l:=by
    rw[HSC.out,List.append_assoc];simp[J3,hd]
   have hX:j6 (w1.alloc (.cells #[.int .u64 r.seq,.string ⟨r.key.toArray⟩,.string ⟨r.val.toArray⟩,.bool r.del,.int .i64 r.size] 116)) w1.heap.size 116 #[.int .u64 r.seq,.string ⟨r.key.toArray⟩,.string ⟨r.val.toArray⟩,.bool r.del,.int .i64 r.size]:=j6.new _ _ rfl;obtain⟨ua,uc,rfl⟩:=ownsRow_form HO.out;have hrlt:∀b,(Value.slice ua rs.length uc).ownBlock=some b->b<w1.heap.size:=fun b hb=>Nat.lt_of_lt_of_le (World.ownsRow.lt HO.out b hb).2 hE1.size;have HRL:=Lib.hid hrlt;clear hrlt;have hE2:Ext w (w1.alloc (.cells #[.int .u64 r.seq,.string ⟨r.key.toArray⟩,.string ⟨r.val.toArray⟩,.bool r.del,.int .i64 r.size] 116)):=(Ext.trans HE.out hE1).new _;have hown:=Dep.row HO.out (w1.alloc (.cells #[.int .u64 r.seq,.string ⟨r.key.toArray⟩,.string ⟨r.val.toArray⟩,.bool r.del,.int .i64 r.size] 116)) fun b hb=>(hE1.new (.cells #[.int .u64 r.seq,.string ⟨r.key.toArray⟩,.string ⟨r.val.toArray⟩,.bool r.del,.int .i64 r.size] 116)).block b (World.ownsRow.lt HO.out b hb).2;have hrl:=HRS.out;have hsz:w.heap.size<=w1.heap.size:=(Ext.trans HE.out hE1).size;have hnw:((w1.alloc (.cells #[.int .u64 r.seq,.string ⟨r.key.toArray⟩,.string ⟨r.val.toArray⟩,.bool r.del,.int .i64 r.size] 116)).alloc (.cells #[.int .u64 r.seq,.string ⟨r.key.toArray⟩,.string ⟨r.val.toArray⟩,.bool r.del,.int .i64 r.size] 116)).heap[w1.heap.size+1]?=some (.cells #[.int .u64 r.seq,.string ⟨r.key.toArray⟩,.string ⟨r.val.toArray⟩,.bool r.del,.int .i64 r.size] 116):=by
    have e:(w1.alloc (.cells #[.int .u64 r.seq,.string ⟨r.key.toArray⟩,.string ⟨r.val.toArray⟩,.bool r.del,.int .i64 r.size] 116)).heap.size=w1.heap.size+1:=by simp
    rw[<-e];exact heap_alloc_new _ _
   have hsl:=HB.out.sliced r.size (l.length - off) hr2 (by omega);have HOW:=Lib.hid hown;have HE2:=Lib.hid hE2;have E0:=Lib.hid e0;have HX:=Lib.hid hX;have HE1:=Lib.hid hE1;have HSL:=Lib.hid hsl;clear hown hE2 e0 hX hE1 HN HSC HO HB hsl;unfold I7;go_wp2_with (at_builtin;go_must (refine p8 rfl _ _ 52 rfl w.heap.size 116 i0 (.agg #[.int .u64 0,.string ⟨#[]⟩,.string ⟨#[]⟩,.bool false,.int .i64 0]) 5 56 Tryz.underlying52 hi hz0 hz1 hz2 rfl (by omega) (.slice ua rs.length uc) rs.length _ rfl (World.ownsRow.alloc HOW.out (.cells #[.int .u64 r.seq,.string ⟨r.key.toArray⟩,.string ⟨r.val.toArray⟩,.bool r.del,.int .i64 r.size] 116)) (.slice (some ⟨w1.heap.size+1,0,none⟩) 1 1) 1 [.int .u64 r.seq,.string ⟨r.key.toArray⟩,.string ⟨r.val.toArray⟩,.bool r.del,.int .i64 r.size] rfl ⟨_,_,rfl,by omega,⟨by omega,fun h=>by cases h⟩,fun _=>⟨_,rfl,World.news_of_block (cs:=#[.int .u64 r.seq,.string ⟨r.key.toArray⟩,.string ⟨r.val.toArray⟩,.bool r.del,.int .i64 r.size]) (t:=116) (fr:=(0,0)) hnw⟩⟩ rfl (by simp[Value.oneCell']) (by unfold maxLen;omega) (by omega) (by simp;omega) ?_);intro b6 c6 w6 hown6 hgrow6 hat6;have HO6:=Lib.hid hown6;have HG6:=Lib.hid hgrow6;clear hown6 hgrow6 hat6;have hX6:=Lib.hid ((HG6.out.block w1.heap.size (by simp;omega) (fun e=>by have:=HRL.out _ e.symm;omega)).trans (HX.out.alloc (.cells #[.int .u64 r.seq,.string ⟨r.key.toArray⟩,.string ⟨r.val.toArray⟩,.bool r.del,.int .i64 r.size] 116)));have d64:=(j6.cell hX6.out 4).trans (show _=some (Value.int .i64 r.size) from rfl))
   all_goals
    go_roundw
    case rel=>
     have hs:=HSL.out;refine⟨rs++[(off,r)],off+r.size,m,?_,by omega,by simp;omega,E0.out,by omega,?_,?_⟩
     ·have e1:(l.drop off).take (l.length - off)=l.drop off:=by rw[List.take_of_length_le (by rw[hdl];exact Nat.le_refl _)]
      rw[e1,List.drop_drop] at hs;have e2:(l.drop (off+r.size)).length=l.length - off - r.size:=by rw[List.length_drop];omega
      exact hs
     ·have:=HO6.out;rw[List.length_append,List.flatMap_append];simpa [a2L] using this
     ·refine Below.grown (HE2.out.new _) HG6.out (by simp;omega) (fun j hj=>?_);have:=(World.ownsRow.lt HOW.out j hj).1;omega
    case measure=>simp[sliceLen];omega
end
section
open Go.RowKit Go.Lib Go.Maps Dk Go.Extern
theorem a2g(h:Value)(w:World):(Go.method 495 275 (.agg #[h]) "Comparable").run Tryz.prog w=.ok (260,.agg #[h]) w:=by kernel_rfl
theorem a4S(h:Value)(w:World):(Go.method 495 132 h "Unwrap").run Tryz.prog w=.ok (253,h) w:=by kernel_rfl
theorem b8Y(w:World):((ReflectliteType.method fun t=>do Rtype.noPackHeld "Comparable" t;Functor.map (fun a:TypeInfo=>Value.bool a.comparable) (typeInfo t)) #[.agg #[.pointer (some ⟨7,37,none⟩)]]).run Tryz.prog w=.ok (.bool true) w:=by kernel_rfl
theorem b8Z(v:Value)(w:World):(binOp .eql 34 .nilIface (.iface 37 v)).run Tryz.prog w=.ok (.bool false) w:=by kernel_rfl
theorem b80(p:Option Addr)(n:Int)(w:World):(binOp .eql 34 (.iface 132 (.pointer p)) (.iface 37 (.int .i64 n))).run Tryz.prog w=.ok (.bool false) w:=by kernel_rfl
theorem b81(m n:Int)(w:World):(binOp .eql 34 (.iface 37 (.int .i64 m)) (.iface 37 (.int .i64 n))).run Tryz.prog w=.ok (.bool (m==n)) w:=by kernel_rfl
theorem c3l(n:Int)(w:World):Calls Tryz.prog 57 #[.nilIface,Q6 n] w fun e w'=>e=.returned (.bool false)/\w'=w:=by
 unfold Q6;have q1:=b8Z;have q2:=b81;go_enter Tryz.func57,Tryz.ntmps57
 go_wp2;go_ret;exact⟨rfl,rfl⟩
theorem c3m(m n:Int)(w:World):Calls Tryz.prog 57 #[Q6 m,Q6 n] w fun e w'=>e=.returned (.bool (decide (m=n)))/\w'=w:=by
 unfold Q6;have h7:=@run_callFunc_extern Tryz.prog 97 _ ReflectliteType.typeOf Tryz.func97 (by kernel_rfl) (by kernel_rfl) (by kernel_rfl) (by kernel_rfl);have h8:=@run_callFunc_extern Tryz.prog 260 _ (ReflectliteType.method fun t=>do Rtype.noPackHeld "Comparable" t;pure (.bool (<-typeInfo t).comparable)) Tryz.func260 (by kernel_rfl) (by kernel_rfl) (by kernel_rfl) (by kernel_rfl);have tO:=a4N;have mC:=a2g;have cE:=b8Y;have mU:=a4S;have q1:=b8Z;have q2:=b81;have q3:=b80;have tA1:=run_typeAssert_lacksB (P:=Tryz.prog) (z:=.nilIface) (t:=37) (asserted:=277) rfl (by kernel_rfl) (by kernel_rfl);have tA2:=run_typeAssert_lacksB (P:=Tryz.prog) (z:=.nilIface) (t:=37) (asserted:=280) rfl (by kernel_rfl) (by kernel_rfl);have tA3:=run_typeAssert_lacksB (P:=Tryz.prog) (z:=.nilIface) (t:=37) (asserted:=281) rfl (by kernel_rfl) (by kernel_rfl);have tA4:=run_typeAssert_lacksB (P:=Tryz.prog) (z:=.nilIface) (t:=132) (asserted:=277) rfl (by kernel_rfl) (by kernel_rfl);have tA5:=run_typeAssert_hasB (P:=Tryz.prog) (t:=132) (asserted:=280) rfl (by kernel_rfl);by_cases hmn:m=n
 ·have hb:(m==n)=true:=beq_iff_eq.2 hmn;have hd:decide (m=n)=true:=decide_eq_true hmn;have HD:=Lib.hid hd;clear hd hmn;go_enter Tryz.func57,Tryz.ntmps57
  go_wp2;refine wp_loop_rounds 1 ?_;rw[rounds_succ];go_wp2;go_ret;exact⟨by rw[HD.out];rfl,rfl⟩
 ·have hb:(m==n)=false:=beq_eq_false_iff_ne.2 hmn;have hd:decide (m=n)=false:=decide_eq_false hmn;have HD:=Lib.hid hd;clear hd hmn;go_enter Tryz.func57,Tryz.ntmps57
  go_wp2;refine wp_loop_rounds 1 ?_;rw[rounds_succ];go_wp2;go_ret;exact⟨by rw[HD.out];rfl,rfl⟩
theorem c1o(b:Nat)(name:Nm)(m n:Int)(w:World)(hb:j6 w b 134 #[strV name,.int .i64 m]):
 Calls Tryz.prog 57 #[.iface 132 (.pointer (some ⟨b,0,none⟩)),Q6 n] w fun e w'=>e=.returned (.bool (decide (m=n)))/\w'=w:=by
 unfold Q6;have c1:=(hb.cell 1).trans (show _=some (Value.int .i64 m) from rfl);clear hb;have h7:=@run_callFunc_extern Tryz.prog 97 _ ReflectliteType.typeOf Tryz.func97 (by kernel_rfl) (by kernel_rfl) (by kernel_rfl) (by kernel_rfl);have h8:=@run_callFunc_extern Tryz.prog 260 _ (ReflectliteType.method fun t=>do Rtype.noPackHeld "Comparable" t;pure (.bool (<-typeInfo t).comparable)) Tryz.func260 (by kernel_rfl) (by kernel_rfl) (by kernel_rfl) (by kernel_rfl);have tO:=a4N;have mC:=a2g;have cE:=b8Y;have mU:=a4S;have q1:=b8Z;have q2:=b81;have q3:=b80;have tA1:=run_typeAssert_lacksB (P:=Tryz.prog) (z:=.nilIface) (t:=37) (asserted:=277) rfl (by kernel_rfl) (by kernel_rfl);have tA2:=run_typeAssert_lacksB (P:=Tryz.prog) (z:=.nilIface) (t:=37) (asserted:=280) rfl (by kernel_rfl) (by kernel_rfl);have tA3:=run_typeAssert_lacksB (P:=Tryz.prog) (z:=.nilIface) (t:=37) (asserted:=281) rfl (by kernel_rfl) (by kernel_rfl);have tA4:=run_typeAssert_lacksB (P:=Tryz.prog) (z:=.nilIface) (t:=132) (asserted:=277) rfl (by kernel_rfl) (by kernel_rfl);have tA5:=run_typeAssert_hasB (P:=Tryz.prog) (t:=132) (asserted:=280) rfl (by kernel_rfl);by_cases hmn:m=n
 ·have hb:(m==n)=true:=beq_iff_eq.2 hmn;have hd:decide (m=n)=true:=decide_eq_true hmn;have HD:=Lib.hid hd;clear hd hmn;go_enter Tryz.func57,Tryz.ntmps57
  go_wp2;refine wp_loop_rounds 2 ?_;rw[rounds_succ];go_wp2;all_goals (try rw[rounds_succ])
  all_goals go_wp2
  go_ret;exact⟨by rw[HD.out];rfl,rfl⟩
 ·have hb:(m==n)=false:=beq_eq_false_iff_ne.2 hmn;have hd:decide (m=n)=false:=decide_eq_false hmn;have HD:=Lib.hid hd;clear hd hmn;go_enter Tryz.func57,Tryz.ntmps57
  go_wp2;refine wp_loop_rounds 2 ?_;rw[rounds_succ];go_wp2;all_goals (try rw[rounds_succ])
  all_goals go_wp2
  go_ret;exact⟨by rw[HD.out];rfl,rfl⟩
theorem b82(er:Er)(v:Value)(n:Int)(w:World)(h:Y4 w v er)(hn:n≠0):Calls Tryz.prog 57 #[v,Q6 n] w fun e w'=>e=.returned (.bool (decide (er.code=n)))/\w'=w:=by
 cases er with
 | ok=>
  obtain rfl:v=.nilIface:=h;have e:decide (Er.code .ok=n)=false:=decide_eq_false (fun h=>hn h.symm)
  rw[e];exact c3l n w
 | num m=>
  obtain rfl:v=Q6 m:=h
  exact c3m m n w
 | file m name=>
  obtain⟨b,rfl,hb⟩:=h;exact c1o b name m n w hb
end
end Go.Proofs.YtgpbhjjajpbeeaaGreatDoor
