/- A part of what the last file proves. -/
import Derived.Test.YtgpbhjjajpbeeaaGreatDoorL12
import Derived.Shelf.Strings.SlTrimAscii
import Derived.Deep.OwnRows
set_option linter.all false
set_option maxRecDepth 100000
set_option maxHeartbeats 1600000
namespace Go.Proofs.YtgpbhjjajpbeeaaGreatDoor
section
open Go.RowKit Go.Lib Go.Maps Dk Pl
def b0U(n:Int)(s:Sg):Prop:=(s.tail.length:Int)<=n/\20*(s.recs.length:Int)<=n/\∀r∈s.recs,(r.key.size:Int)<=n/\(r.val.size:Int)<=n
def b0V(n:Int)(s:Sg)(j:Nat):Prop:=(s.tail.length:Int)<=n/\20*(j:Int)<=n/\∀r∈s.recs.take j,(r.key.size:Int)<=n/\(r.val.size:Int)<=n
def b6l(n:Int)(s:Ot):Prop:=(s.name.size:Int)<=n/\(s.bytes.length:Int)<=n
theorem b0U.mono{n m:Int}{s:Sg}(h:b0U n s)(k:n<=m):b0U m s:=
 ⟨by have:=h.1;omega,by have:=h.2.1;omega,fun r hr=>by have:=h.2.2 r hr;omega⟩
theorem b0V.step{n m:Int}{s:Sg}{j:Nat}{r:Rc}(h:b0V n s j)(hr:s.recs[j]?=some r)(hm:m=n+20+r.key.size+r.val.size)(hn:0<=n):b0V m s (j+1):=by
 refine⟨by have:=h.1;omega,by have:=h.2.1;omega,fun x hx=>?_⟩;rw[List.take_add_one,hr] at hx;rcases List.mem_append.1 hx with hx|hx
 ·have:=h.2.2 x hx;omega
 ·simp at hx;subst hx;omega
theorem b0V.all{n:Int}{s:Sg}(h:b0V n s s.recs.length):b0U n s:=⟨h.1,h.2.1,fun r hr=>h.2.2 r (by rw[List.take_length];exact hr)⟩
theorem b0W{α:Type}{p:α->Prop}{l:List α}{i:Nat}{x:α}(h:∀s∈l.take i,p s)(hx:l[i]?=some x)(hp:p x):∀s∈l.take (i+1),p s:=by
 intro s hs;rw[List.take_add_one,hx] at hs;rcases List.mem_append.1 hs with hs|hs
 ·exact h s hs
 ·simp at hs;subst hs;exact hp
def a1P(d:Dr)(w:World)(e:Ending)(w':World):Prop:=∃b:Bool,e=.returned (.bool b)/\(b=true->d.Small)/\Ext w w'
theorem a1P.no{d:Dr}{w w':World}(h:Ext w w'):a1P d w (.returned (.bool false)) w':=⟨false,rfl,⟨fun h=>(by cases h),h⟩⟩
theorem b8h(v:Value)(d:Dr)(w:World)(h:b1z w v d)(hf:d.Fits 281474976710656):
 Calls Tryz.prog 12 #[v] w (a1P d w):=by
 obtain⟨v0,v1,v3,rfl,h0,h1,h3⟩:=h;obtain⟨a0,c0,rfl,hl0,hm0⟩:=h0.form;obtain⟨a1,c1,rfl,hl1,hm1⟩:=h1.form;obtain⟨a3,c3,rfl,hl3,hm3,-⟩:=h3.open;have hE0:∀o,Ext w (w.alloc o):=fun o=>(Ext.refl w).new o;have H0:=Lib.hid h0;have H1:=Lib.hid h1;have HF:=Lib.hid hf;have HE0:=Lib.hid hE0;clear h0 h1 h3 hf hE0;by_cases k0:60<d.segs.length
 ·go_enter Tryz.func12,Tryz.ntmps12
  go_wp2;go_ret;exact a1P.no (HE0.out _)
 by_cases k1:300<d.others.length
 ·go_enter Tryz.func12,Tryz.ntmps12
  go_wp2;go_ret;exact a1P.no (HE0.out _)
 by_cases k2:40000<d.spoilt.length
 ·go_enter Tryz.func12,Tryz.ntmps12
  go_wp2;go_ret;exact a1P.no (HE0.out _)
 obtain⟨w0,hw0⟩:∃w0,w.alloc (.cells #[.slice a0 d.segs.length c0,.slice a1 d.others.length c1,.int .u64 d.gen,.slice a3 d.spoilt.length c3,.bool d.whole,.bool d.without] 27)=w0:=⟨_,rfl⟩;have hb0:o7 w0 w.heap.size 27 #[.slice a0 d.segs.length c0,.slice a1 d.others.length c1,.int .u64 d.gen,.slice a3 d.spoilt.length c3,.bool d.whole,.bool d.without]:=hw0▸o7.new _ _ rfl;have hEw:Ext w w0:=hw0▸HE0.out _;have b0:=(hb0.cell 0).trans (show _=some (Value.slice a0 d.segs.length c0) from rfl);have b1:=(hb0.cell 1).trans (show _=some (Value.slice a1 d.others.length c1) from rfl);have HEW:=Lib.hid hEw;have HW0:=Lib.hid hw0;clear hEw HE0 hw0 hb0;have HB0:=Lib.hid b0;have HB1:=Lib.hid b1;go_enter Tryz.func12,Tryz.ntmps12
 go_wp2;rw[HW0.out];go_loopw [3,4] (fun n i wr=>∃(k:Nat)(z:Int),k<=d.segs.length/\i=.int .i64 k/\n=.int .i64 z/\0<=z/\z<=40000+k*281474976710656/\(∀s∈d.segs.take k,b0U z s)/\Ext w0 wr) (fun _ i _=>d.segs.length - (intOf i).toNat)
 case atStart=>exact⟨0,0,by omega,rfl,rfl,by omega,by omega,by simp,Ext.refl w0⟩
 case round=>
  obtain⟨k,z,hk,rfl,rfl,hz0,hz1,hseg,hE⟩:=hrel;have e0:=hE.cell b0;have e1:=hE.cell b1;have hEw:=HEW.out.trans hE;clear b0 b1;have HSEG:=Lib.hid hseg;have HE:=Lib.hid hE;have HEWR:=Lib.hid hEw;clear hseg hE hEw;by_cases hlt:k<d.segs.length
  ·obtain⟨s,hs⟩:∃s,d.segs[k]?=some s:=⟨_,List.getElem?_eq_getElem hlt⟩;have hsm:=List.mem_of_getElem? hs;have hft:=HF.out.tail s hsm;have hfr:=HF.out.recs s hsm;obtain⟨b,rfl,u1,u2,-,s1,s2,-,-,hrec,htail⟩:=(H0.out.ext fun _ _=>a9K.ext HEWR.out).at hs;obtain⟨ra,rc,rfl,hrc,hrc'⟩:=hrec.form;obtain⟨ta,tc,rfl,htc,htc',-⟩:=htail.open;have HREC:=Lib.hid hrec;have HS1:=Lib.hid s1;have HS:=Lib.hid hs;have HFR:=Lib.hid hfr;clear hrec htail hs hsm hfr;go_wp2;go_loopw [3,5] (fun n i wq=>∃(j:Nat)(y:Int),j<=s.recs.length/\i=.int .i64 j/\n=.int .i64 y/\z<=y/\(y<=40000\/y<=z+281474976710656)/\b0V y s j/\Ext wr wq) (fun _ i _=>s.recs.length - (intOf i).toNat)
   case atStart=>exact⟨0,z+s.tail.length,by omega,rfl,by go_num,by omega,by omega,⟨by omega,by omega,by simp⟩,Ext.refl _⟩
   case round=>
    obtain⟨j,y,hj,rfl,rfl,hy0,hy1,hto,hEq⟩:=hrel;have d0:=hEq.cell e0;have d1:=hEq.cell e1;have t1:=hEq.cell s1;have hEw:=HEWR.out.trans hEq;clear e0 e1 s1 s2;have HTO:=Lib.hid hto;have HEQ:=Lib.hid hEq;have HEWQ:=Lib.hid hEw;clear hto hEq hEw;by_cases hjl:j<s.recs.length
    ·obtain⟨r,hr⟩:∃r,s.recs[j]?=some r:=⟨_,List.getElem?_eq_getElem hjl⟩;obtain⟨hk1,hv1⟩:=HFR.out r (List.mem_of_getElem? hr);obtain⟨bb,rfl,-,r1,r2,-⟩:=(HREC.out.ext fun _ _=>b1x.ext HEQ.out).at hr;have HR:=Lib.hid hr;clear hr;obtain⟨y2,hy2⟩:∃y2,y+20+r.key.size+r.val.size=y2:=⟨_,rfl⟩;have hst:=HTO.out.step HR.out hy2.symm (by omega);have HST:=Lib.hid hst;clear hst;go_wp2_with fail
     go_quiet (fail)
     by_cases hbig:40000<y2
     ·go_wp2;go_ret;exact a1P.no (HEWQ.out.trans (Ext.drewN _ nq))
     ·go_wp2;go_roundw
      case rel=>exact⟨j+1,y2,by omega,by go_num,by go_num,by omega,by omega,HST.out,HEQ.out.trans (Ext.drewN _ nq)⟩
      case measure=>simp[intOf];omega
    ·obtain rfl:j=s.recs.length:=by omega
     have hall:=b0W (fun s hs=>(HSEG.out s hs).mono hy0) HS.out HTO.out.all;have HALL:=Lib.hid hall;clear hall;go_wp2;go_roundw
     case rel=>exact⟨k+1,y,by omega,by go_num,rfl,by omega,by omega,HALL.out,HE.out.trans HEQ.out⟩
     case measure=>simp[intOf];omega
  ·obtain rfl:k=d.segs.length:=by omega
   have hsegs:∀s∈d.segs,b0U z s:=by have:=HSEG.out;rwa [List.take_length] at this
   have HSG:=Lib.hid hsegs;clear hsegs;go_wp2;go_loopw [3,6] (fun n i wq=>∃(k:Nat)(y:Int),k<=d.others.length/\i=.int .i64 k/\n=.int .i64 y/\z<=y/\(y<=40000\/y=z)/\(∀s∈d.others.take k,b6l y s)/\Ext wr wq) (fun _ i _=>d.others.length - (intOf i).toNat)
   case atStart=>exact⟨0,z,by omega,rfl,rfl,by omega,by omega,by simp,Ext.refl _⟩
   case round=>
    obtain⟨k,y,hk,rfl,rfl,hy0,hy1,hoth,hEq⟩:=hrel;have d1:=hEq.cell e1;have hEw:=HEWR.out.trans hEq;clear e0 e1;have HOT:=Lib.hid hoth;have HEQ:=Lib.hid hEq;have HEWQ:=Lib.hid hEw;clear hoth hEq hEw;by_cases hlt:k<d.others.length
    ·obtain⟨s,hs⟩:∃s,d.others[k]?=some s:=⟨_,List.getElem?_eq_getElem hlt⟩;have hsm:=List.mem_of_getElem? hs;obtain⟨hf1,hf2⟩:=HF.out.other s hsm;obtain⟨b,rfl,u2,o0,-,o2,hby⟩:=(H1.out.ext fun _ _=>b1y.ext HEWQ.out).at hs;obtain⟨ta,tc,rfl,htc,htc',-⟩:=hby.open;obtain⟨y2,hy2⟩:∃y2,y+s.bytes.length+s.name.size=y2:=⟨_,rfl⟩;have hst:=b0W (p:=b6l y2) (fun s hs=>⟨by have:=(HOT.out s hs).1;omega,by have:=(HOT.out s hs).2;omega⟩) hs ⟨by omega,by omega⟩;have HST:=Lib.hid hst;clear hst hs hsm hby;go_wp2_with fail
     go_quiet (fail)
     by_cases hbig:40000<y2
     ·go_wp2;go_ret;exact a1P.no (HEWQ.out.trans (Ext.drewN _ nq))
     ·go_wp2;go_roundw
      case rel=>exact⟨k+1,y2,by omega,by go_num,by go_num,by omega,by omega,HST.out,HEQ.out.trans (Ext.drewN _ nq)⟩
      case measure=>simp[intOf];omega
    ·obtain rfl:k=d.others.length:=by omega
     have hother:∀s∈d.others,b6l y s:=by have:=HOT.out;rwa [List.take_length] at this
     have hfin:a1P d w (.returned (.bool (decide (y<=40000)))) wr:=by
      refine⟨_,rfl,fun h=>?_,HEWQ.out⟩;have hyl:=of_decide_eq_true h;refine⟨by omega,by omega,by omega,fun s hs=>?_,fun s hs=>?_,fun s hs=>?_⟩
      ·have:=(HSG.out s hs).1;omega
      ·have h1:=HSG.out s hs;refine⟨by have:=h1.2.1;omega,fun r hr=>?_⟩;have:=h1.2.2 r hr;omega
      ·have:=hother s hs;unfold b6l at this;omega
     have HFN:=Lib.hid hfin;clear hfin hother;go_wp2;go_ret;exact HFN.out
end
section
open Go.RowKit Go.Lib Go.Maps Dk
namespace Dk
def D.swept(d:D)(ids:List Int)(k:Nat):D:=(d.removeAll ((d.list.take k).filter fun n=>!a2Q ids n)).2
structure Sw(d:D)(ids:List Int)(k:Nat):Prop where
 ok:d.removeAll ((d.list.take k).filter fun n=>!a2Q ids n)=(.ok,d.swept ids k)
 now:(d.swept ids k).now=D5 d.now (((d.list.take k).filter fun n=>!a2Q ids n).map fun n=>(n,none))
 moves:(d.swept ids k).moves=d.moves++((d.list.take k).filter fun n=>!a2Q ids n).map fun n=>[(n,none)]
 calm:(d.swept ids k).Calm
theorem D.Calm.sw{d:D}(h:d.Calm)(hn:(d.now.map (·.1)).Nodup)(ids:List Int)(k:Nat):Sw d ids k:=by
 have hr:=h.removeAll ((d.list.take k).filter fun n=>!a2Q ids n) (((a8v hn).sublist (List.take_sublist _ _)).filter _) (fun n hm=>by
  have:=List.mem_of_mem_take (List.mem_filter.1 hm).1;rwa [a2P] at this)
 have e:d.swept ids k={d with now:=D5 d.now (((d.list.take k).filter fun n=>!a2Q ids n).map fun n=>(n,none)),moves:=d.moves++((d.list.take k).filter fun n=>!a2Q ids n).map fun n=>[(n,none)]}:=by
  unfold D.swept;rw[hr]
 exact⟨by rw[hr,e],by rw[e],by rw[e],by rw[e];exact h⟩
theorem b7q{d:D}(h:d.Calm)(hnd:(d.now.map (·.1)).Nodup)(ids:List Int):d.sweep ids=(d.swept ids d.list.length).syncDir:=by
 have s:=h.sw hnd ids d.list.length;have h1:=s.ok;rw[List.take_length] at h1;unfold D.sweep;rw[h1]
end Dk
end
section
open Go.RowKit Go.Lib Go.Maps Dk
namespace Dk
structure D.Fit(d:D):Prop where
 data:∀x∈d.ids,(d.node x).data.length<=1099511627776
 len:d.now.length<=400
 names:∀p∈d.now,p.1.length<=1000000
theorem b9p(l:List (Nm×Nat))(ns:List Nm):(D5 l (ns.map fun n=>(n,none))).length<=l.length:=by
 induction ns generalizing l with
 | nil=>exact Nat.le_refl _
 | cons n ns ih=>exact Nat.le_trans (ih (a3p l n)) (List.length_filter_le _ _)
theorem D.Fit.sweep{d:D}(h:d.Fit)(hs:d.Safe)(ids:List Int):(d.sweep ids).2.Fit:=by
 obtain⟨e,he,-,-,hids,-,hnode⟩:=hs.sweep ids;have hnow:(d.sweep ids).2.now=D5 d.now (((d.list.take d.list.length).filter fun n=>!a2Q ids n).map fun n=>(n,none)):=by
  have hsw:=hs.calm.sw hs.nodup ids d.list.length;rw[b7q hs.calm hs.nodup ids,hsw.calm.syncDir];exact hsw.now
 refine⟨fun x hx=>?_,?_,fun p hp=>?_⟩
 ·rw[he] at hx⊢;dsimp only at hx⊢;rw[hids] at hx;rw[hnode];exact h.data x hx
 ·rw[hnow];exact Nat.le_trans (b9p _ _) h.len
 ·rw[hnow] at hp;rcases a03 hp with hp|⟨x,hx,e⟩
  ·exact h.names p hp
  ·obtain⟨n,-,rfl⟩:=List.mem_map.1 hx;cases e
theorem D.Safe.stepped{d:D}(h:d.Safe)(dir:Nat):d.stepped dir=d.safe:=by unfold D.stepped;rw[h.moves];simp
end Dk
end
section
open Go.RowKit Go.Lib Go.Maps Dk Pl
end
section
open Go.RowKit Go.Lib Pl
theorem a2S{l:List UInt8}{r:Rec}(h:dec l=some r):17<=r.size/\r.size<=l.length:=by
 unfold dec at h;split at h
 ·rename_i hg;injection h with h;subst h;unfold good at hg;simp only[Bool.and_eq_true,decide_eq_true_eq] at hg;obtain⟨h1,-,h3,-⟩:=hg;dsimp only;omega
 ·cases h
def O9:Nat->Nat->List UInt8->List (Nat×Rec)
 | 0,_,_=>[]
 | n+1,off,l=>match dec (l.drop off) with
  | none=>[]
  | some r=>(off,r)::O9 n (off+r.size) l
def J9(l:List UInt8):List (Nat×Rec):=O9 (l.length+1) 0 l
def O6(seg:Int)(p:Nat×Rec):List Value:=[.int .i64 seg,.int .i64 p.1,.int .i64 p.2.size,.int .u64 p.2.seq,.string ⟨p.2.key.toArray⟩,.string ⟨p.2.val.toArray⟩,.bool p.2.del]
theorem a4N{n off:Nat}{l:List UInt8}(h:dec (l.drop off)=none):O9 n off l=[]:=by
 cases n with
 | zero=>rfl
 | succ n=>simp[O9,h]
theorem b4p:(Tryz.prog.info? 160).map (fun i=>(i.zero,i.size,i.bytes))=some (some (.agg #[.int .i64 0,.int .i64 0,.int .i64 0,.int .u64 0,.string ⟨#[]⟩,.string ⟨#[]⟩,.bool false]),7,72):=by kernel_rfl
theorem b9Z(seg:Int)(v:Value)(l:List UInt8)(w:World)(h:Bytes w v l)(hl:l.length<=1099511627776):
 Calls Tryz.prog 61 #[.int .i64 seg,v] w fun e w'=>∃u,e=.returned u/\w'.ownsRow w.heap.size 160 7 u (J9 l).length ((J9 l).flatMap (O6 seg))/\Ext w w':=by
 obtain⟨i0,hi,hz0,hz1,hz2⟩:=info_parts b4p;obtain⟨a,cap,rfl,hc1,hc2,hcell⟩:=id h;have H:=Lib.hid h;clear h hcell;go_enter Tryz.func61,Tryz.ntmps61
 go_wp2;go_loopw [5,6] (fun u o wr=>∃(rs:List (Nat×Rec))(off n:Nat),o=.int .i64 off/\off<=l.length/\rs.length<=off/\J9 l=rs++O9 n off l/\l.length<n+off/\wr.ownsRow w.heap.size 160 7 u rs.length (rs.flatMap (O6 seg))/\Ext w wr) (fun _ o _=>l.length - (intOf o).toNat)
 case atStart=>exact⟨[],0,l.length+1,rfl,by omega,by simp,rfl,by omega,⟨rfl,Or.inl ⟨rfl,rfl⟩⟩,Ext.refl w⟩
 case round=>
  obtain⟨rs,off,n,rfl,hoff,hrs,hsc,hn,hown,hE⟩:=hrel;have hb1:=(H.out.ext hE).sliced off l.length hoff (Nat.le_refl _);rw[List.take_length] at hb1;have HN:=Lib.hid hn;have HSC:=Lib.hid hsc;have HO:=Lib.hid hown;have HE:=Lib.hid hE;have HB:=Lib.hid hb1;have HRS:=Lib.hid hrs;clear hn hsc hown hE hb1 hrs;go_wp2_with fail
  all_goals
   have HBo:=HB.out
   first
    | (rw[if_pos ‹cap=off›,show cap - off=0 by omega] at HBo)
    | rw[if_neg ‹¬cap=off›] at HBo
   refine(decode_any _ (l.drop off) wr HBo).mono ?_;rintro e w1 ⟨rfl,hE1⟩;clear HBo HB
   cases hd:dec (l.drop off) with
   | none=>
    have hX:o7 (w1.alloc (.cells #[.int .u64 0,.string ⟨#[]⟩,.string ⟨#[]⟩,.bool false] 111)) w1.heap.size 111 #[.int .u64 0,.string ⟨#[]⟩,.string ⟨#[]⟩,.bool false]:=o7.new _ _ rfl;have e0:=(HSC.out).trans (by rw[a4N hd,List.append_nil]);have hown:=Dep.row HO.out (w1.alloc (.cells #[.int .u64 0,.string ⟨#[]⟩,.string ⟨#[]⟩,.bool false] 111)) fun b hb=>(hE1.new (.cells #[.int .u64 0,.string ⟨#[]⟩,.string ⟨#[]⟩,.bool false] 111)).block b (World.ownsRow.lt HO.out b hb).2;have hE2:Ext w (w1.alloc (.cells #[.int .u64 0,.string ⟨#[]⟩,.string ⟨#[]⟩,.bool false] 111)):=(Ext.trans HE.out hE1).new _;have HOW:=Lib.hid hown;have HE2:=Lib.hid hE2;have E0:=Lib.hid e0;clear hown hE2 e0 hX hE1;unfold a1w a0l X6;go_wp2_with fail
    exact bodyPost_ret (v:=u5) (by simp[results,Tryz.results61]) rfl ⟨u5,rfl,by rw[E0.out];exact HOW.out,HE2.out⟩
   | some r=>
    obtain⟨hr1,hr2⟩:=a2S hd;rw[List.length_drop] at hr2
    first
    | (exfalso;omega)
    | skip
      have hn:=HN.out;obtain⟨m,rfl⟩:∃m,n=m+1:=⟨n - 1,by omega⟩;have e0:J9 l=(rs++[(off,r)])++O9 m (off+r.size) l:=by
       rw[HSC.out,List.append_assoc];simp[O9,hd]
      have hX:o7 (w1.alloc (.cells #[.int .u64 r.seq,.string ⟨r.key.toArray⟩,.string ⟨r.val.toArray⟩,.bool r.del] 111)) w1.heap.size 111 #[.int .u64 r.seq,.string ⟨r.key.toArray⟩,.string ⟨r.val.toArray⟩,.bool r.del]:=o7.new _ _ rfl;have hown:=Dep.row HO.out (w1.alloc (.cells #[.int .u64 r.seq,.string ⟨r.key.toArray⟩,.string ⟨r.val.toArray⟩,.bool r.del] 111)) fun b hb=>(hE1.new (.cells #[.int .u64 r.seq,.string ⟨r.key.toArray⟩,.string ⟨r.val.toArray⟩,.bool r.del] 111)).block b (World.ownsRow.lt HO.out b hb).2;have hE2:Ext w (w1.alloc (.cells #[.int .u64 r.seq,.string ⟨r.key.toArray⟩,.string ⟨r.val.toArray⟩,.bool r.del] 111)):=(Ext.trans HE.out hE1).new _;obtain⟨ua,uc,rfl⟩:=ownsRow_form HO.out;have hsz:w.heap.size<=(w1.alloc (.cells #[.int .u64 r.seq,.string ⟨r.key.toArray⟩,.string ⟨r.val.toArray⟩,.bool r.del] 111)).heap.size:=hE2.size;have hrl:=HRS.out;have HOW:=Lib.hid hown;have HE2:=Lib.hid hE2;have E0:=Lib.hid e0;have HX:=Lib.hid hX;have HE1:=Lib.hid hE1;clear hown hE2 e0 hX hE1 HN HSC HO;unfold a1w
      have hsz2:w.heap.size<=w1.heap.size+2:=by have:(w1.alloc (.cells #[.int .u64 r.seq,.string ⟨r.key.toArray⟩,.string ⟨r.val.toArray⟩,.bool r.del] 111)).heap.size=w1.heap.size+1:=by simp
                                                omega
      have hnw:((w1.alloc (.cells #[.int .u64 r.seq,.string ⟨r.key.toArray⟩,.string ⟨r.val.toArray⟩,.bool r.del] 111)).alloc (.cells #[.int .i64 seg,.int .i64 off,.int .i64 r.size,.int .u64 r.seq,.string ⟨r.key.toArray⟩,.string ⟨r.val.toArray⟩,.bool r.del] 160)).heap[w1.heap.size+1]?=some (.cells #[.int .i64 seg,.int .i64 off,.int .i64 r.size,.int .u64 r.seq,.string ⟨r.key.toArray⟩,.string ⟨r.val.toArray⟩,.bool r.del] 160):=by
       have e:(w1.alloc (.cells #[.int .u64 r.seq,.string ⟨r.key.toArray⟩,.string ⟨r.val.toArray⟩,.bool r.del] 111)).heap.size=w1.heap.size+1:=by simp
       rw[<-e];exact heap_alloc_new _ _
      go_wp2_with (at_builtin;go_must (refine D6 rfl _ _ 151 rfl w.heap.size 160 i0 (.agg #[.int .i64 0,.int .i64 0,.int .i64 0,.int .u64 0,.string ⟨#[]⟩,.string ⟨#[]⟩,.bool false]) 7 72 Tryz.underlying151 hi hz0 hz1 hz2 rfl (by omega) (.slice ua rs.length uc) rs.length _ rfl (World.ownsRow.alloc HOW.out (.cells #[.int .i64 seg,.int .i64 off,.int .i64 r.size,.int .u64 r.seq,.string ⟨r.key.toArray⟩,.string ⟨r.val.toArray⟩,.bool r.del] 160)) (.slice (some ⟨w1.heap.size+1,0,none⟩) 1 1) 1 [.int .i64 seg,.int .i64 off,.int .i64 r.size,.int .u64 r.seq,.string ⟨r.key.toArray⟩,.string ⟨r.val.toArray⟩,.bool r.del] rfl ⟨_,_,rfl,by omega,⟨by omega,fun h=>by cases h⟩,fun _=>⟨_,rfl,World.news_of_block (cs:=#[.int .i64 seg,.int .i64 off,.int .i64 r.size,.int .u64 r.seq,.string ⟨r.key.toArray⟩,.string ⟨r.val.toArray⟩,.bool r.del]) (t:=160) (fr:=(0,0)) hnw⟩⟩ rfl (by simp[Value.oneCell']) (by unfold maxLen;omega) (by omega) (by simp;omega) ?_);intro b6 c6 w6 hown6 hgrow6 hat6;have HO6:=Lib.hid hown6;have HG6:=Lib.hid hgrow6;clear hown6 hgrow6 hat6)
      go_roundw
      case rel=>
       refine⟨rs++[(off,r)],off+r.size,m,by go_num,by omega,by simp;omega,E0.out,by omega,?_,?_⟩
       ·have:=HO6.out;rw[List.length_append,List.flatMap_append];simpa [O6] using this
       ·refine Below.grown (HE2.out.new _) HG6.out (by simp;omega) (fun j hj=>?_);have:=(World.ownsRow.lt HOW.out j hj).1;omega
      case measure=>simp[intOf];omega
end
section
open Go.RowKit Go.Lib Pl
def a3t(p:Nat×Rec):List Value:=[.int .u64 p.2.seq,.string ⟨p.2.key.toArray⟩,.string ⟨p.2.val.toArray⟩,.bool p.2.del,.int .i64 p.2.size]
def sliceLen:Value->Nat
 | .slice _ n _=>n
 | _=>0
theorem b8f:(Tryz.prog.info? 116).map (fun i=>(i.zero,i.size,i.bytes))=some (some (.agg #[.int .u64 0,.string ⟨#[]⟩,.string ⟨#[]⟩,.bool false,.int .i64 0]),5,56):=by kernel_rfl
theorem b3r(v:Value)(l:List UInt8)(w:World)(h:Bytes w v l)(hl:l.length<=1099511627776):
 Calls Tryz.prog 69 #[v] w fun e w'=>∃u,e=.returned u/\w'.ownsRow w.heap.size 116 5 u (J9 l).length ((J9 l).flatMap a3t)/\Ext w w':=by
 obtain⟨i0,hi,hz0,hz1,hz2⟩:=info_parts b8f;have H:=Lib.hid h;clear h;go_enter Tryz.func69,Tryz.ntmps69
 go_wp2;go_loopw [0,3] (fun b u wr=>∃(rs:List (Nat×Rec))(off n:Nat),Bytes w b (l.drop off)/\off<=l.length/\rs.length<=off/\J9 l=rs++O9 n off l/\l.length<n+off/\wr.ownsRow w.heap.size 116 5 u rs.length (rs.flatMap a3t)/\Ext w wr) (fun b _ _=>sliceLen b)
 case atStart=>exact⟨[],0,l.length+1,H.out,by omega,by simp,rfl,by omega,⟨rfl,Or.inl ⟨rfl,rfl⟩⟩,Ext.refl w⟩
 case round=>
  obtain⟨rs,off,n,hb,hoff,hrs,hsc,hn,hown,hE⟩:=hrel;obtain⟨ba,bc,rfl,hbc,hbc2,-⟩:=id hb;have hdl:(l.drop off).length=l.length - off:=List.length_drop;rw[hdl] at hbc hb⊢;have HN:=Lib.hid hn;have HSC:=Lib.hid hsc;have HO:=Lib.hid hown;have HE:=Lib.hid hE;have HB:=Lib.hid hb;have HRS:=Lib.hid hrs;clear hn hsc hown hE hb hrs;go_wp2_with fail
  refine(a9X _ (l.drop off) wr (HB.out.ext HE.out)).mono ?_;rintro e w1 ⟨rfl,hE1⟩
  cases hd:dec (l.drop off) with
  | none=>
   have hfin:∀wz,Ext w1 wz->(World.ownsRow wz w.heap.size 116 5 u3 (J9 l).length ((J9 l).flatMap a3t)/\Ext w wz):=fun wz hz=>by
    have e0:=(HSC.out).trans (by rw[a4N hd,List.append_nil]);rw[e0];exact⟨Dep.row HO.out wz fun b hb=>(hE1.trans hz).block b (World.ownsRow.lt HO.out b hb).2,HE.out.trans (hE1.trans hz)⟩
   have HF:=Lib.hid hfin;clear hfin hE1 HB HN HSC HO HE;unfold O1 a0n;go_wp2_with fail
   exact bodyPost_ret (v:=u3) (by simp[results,Tryz.results69]) rfl ⟨u3,rfl,HF.out _ ((Ext.refl w1).new _)⟩
  | some r=>
   obtain⟨hr1,hr2⟩:=a2S hd;rw[hdl] at hr2;have hn:=HN.out;obtain⟨m,rfl⟩:∃m,n=m+1:=⟨n - 1,by omega⟩;have e0:J9 l=(rs++[(off,r)])++O9 m (off+r.size) l:=by
    rw[HSC.out,List.append_assoc];simp[O9,hd]
   have hX:o7 (w1.alloc (.cells #[.int .u64 r.seq,.string ⟨r.key.toArray⟩,.string ⟨r.val.toArray⟩,.bool r.del,.int .i64 r.size] 116)) w1.heap.size 116 #[.int .u64 r.seq,.string ⟨r.key.toArray⟩,.string ⟨r.val.toArray⟩,.bool r.del,.int .i64 r.size]:=o7.new _ _ rfl;obtain⟨ua,uc,rfl⟩:=ownsRow_form HO.out;have hrlt:∀b,(Value.slice ua rs.length uc).ownBlock=some b->b<w1.heap.size:=fun b hb=>Nat.lt_of_lt_of_le (World.ownsRow.lt HO.out b hb).2 hE1.size;have HRL:=Lib.hid hrlt;clear hrlt;have hE2:Ext w (w1.alloc (.cells #[.int .u64 r.seq,.string ⟨r.key.toArray⟩,.string ⟨r.val.toArray⟩,.bool r.del,.int .i64 r.size] 116)):=(Ext.trans HE.out hE1).new _;have hown:=Dep.row HO.out (w1.alloc (.cells #[.int .u64 r.seq,.string ⟨r.key.toArray⟩,.string ⟨r.val.toArray⟩,.bool r.del,.int .i64 r.size] 116)) fun b hb=>(hE1.new (.cells #[.int .u64 r.seq,.string ⟨r.key.toArray⟩,.string ⟨r.val.toArray⟩,.bool r.del,.int .i64 r.size] 116)).block b (World.ownsRow.lt HO.out b hb).2;have hrl:=HRS.out;have hsz:w.heap.size<=w1.heap.size:=(Ext.trans HE.out hE1).size;have hnw:((w1.alloc (.cells #[.int .u64 r.seq,.string ⟨r.key.toArray⟩,.string ⟨r.val.toArray⟩,.bool r.del,.int .i64 r.size] 116)).alloc (.cells #[.int .u64 r.seq,.string ⟨r.key.toArray⟩,.string ⟨r.val.toArray⟩,.bool r.del,.int .i64 r.size] 116)).heap[w1.heap.size+1]?=some (.cells #[.int .u64 r.seq,.string ⟨r.key.toArray⟩,.string ⟨r.val.toArray⟩,.bool r.del,.int .i64 r.size] 116):=by
    have e:(w1.alloc (.cells #[.int .u64 r.seq,.string ⟨r.key.toArray⟩,.string ⟨r.val.toArray⟩,.bool r.del,.int .i64 r.size] 116)).heap.size=w1.heap.size+1:=by simp
    rw[<-e];exact heap_alloc_new _ _
   have hsl:=HB.out.sliced r.size (l.length - off) hr2 (by omega);have HOW:=Lib.hid hown;have HE2:=Lib.hid hE2;have E0:=Lib.hid e0;have HX:=Lib.hid hX;have HE1:=Lib.hid hE1;have HSL:=Lib.hid hsl;clear hown hE2 e0 hX hE1 HN HSC HO HB hsl;unfold O1;go_wp2_with (at_builtin;go_must (refine D6 rfl _ _ 52 rfl w.heap.size 116 i0 (.agg #[.int .u64 0,.string ⟨#[]⟩,.string ⟨#[]⟩,.bool false,.int .i64 0]) 5 56 Tryz.underlying52 hi hz0 hz1 hz2 rfl (by omega) (.slice ua rs.length uc) rs.length _ rfl (World.ownsRow.alloc HOW.out (.cells #[.int .u64 r.seq,.string ⟨r.key.toArray⟩,.string ⟨r.val.toArray⟩,.bool r.del,.int .i64 r.size] 116)) (.slice (some ⟨w1.heap.size+1,0,none⟩) 1 1) 1 [.int .u64 r.seq,.string ⟨r.key.toArray⟩,.string ⟨r.val.toArray⟩,.bool r.del,.int .i64 r.size] rfl ⟨_,_,rfl,by omega,⟨by omega,fun h=>by cases h⟩,fun _=>⟨_,rfl,World.news_of_block (cs:=#[.int .u64 r.seq,.string ⟨r.key.toArray⟩,.string ⟨r.val.toArray⟩,.bool r.del,.int .i64 r.size]) (t:=116) (fr:=(0,0)) hnw⟩⟩ rfl (by simp[Value.oneCell']) (by unfold maxLen;omega) (by omega) (by simp;omega) ?_);intro b6 c6 w6 hown6 hgrow6 hat6;have HO6:=Lib.hid hown6;have HG6:=Lib.hid hgrow6;clear hown6 hgrow6 hat6;have hX6:=Lib.hid ((HG6.out.block w1.heap.size (by simp;omega) (fun e=>by have:=HRL.out _ e.symm;omega)).trans (HX.out.alloc (.cells #[.int .u64 r.seq,.string ⟨r.key.toArray⟩,.string ⟨r.val.toArray⟩,.bool r.del,.int .i64 r.size] 116)));have d64:=(o7.cell hX6.out 4).trans (show _=some (Value.int .i64 r.size) from rfl))
   all_goals
    go_roundw
    case rel=>
     have hs:=HSL.out;refine⟨rs++[(off,r)],off+r.size,m,?_,by omega,by simp;omega,E0.out,by omega,?_,?_⟩
     ·have e1:(l.drop off).take (l.length - off)=l.drop off:=by rw[List.take_of_length_le (by rw[hdl];exact Nat.le_refl _)]
      rw[e1,List.drop_drop] at hs;have e2:(l.drop (off+r.size)).length=l.length - off - r.size:=by rw[List.length_drop];omega
      exact hs
     ·have:=HO6.out;rw[List.length_append,List.flatMap_append];simpa [a3t] using this
     ·refine Below.grown (HE2.out.new _) HG6.out (by simp;omega) (fun j hj=>?_);have:=(World.ownsRow.lt HOW.out j hj).1;omega
    case measure=>simp[sliceLen];omega
end
section
open Go.RowKit Go.Lib Go.Maps Dk Go.Extern
theorem a2R(h:Value)(w:World):(Go.method 495 275 (.agg #[h]) "Comparable").run Tryz.prog w=.ok (260,.agg #[h]) w:=by kernel_rfl
theorem methodUnwrap(h:Value)(w:World):(Go.method 495 132 h "Unwrap").run Tryz.prog w=.ok (253,h) w:=by kernel_rfl
theorem b9O(w:World):((ReflectliteType.method fun t=>do Rtype.noPackHeld "Comparable" t;Functor.map (fun a:TypeInfo=>Value.bool a.comparable) (typeInfo t)) #[.agg #[.pointer (some ⟨7,37,none⟩)]]).run Tryz.prog w=.ok (.bool true) w:=by kernel_rfl
theorem b9P(v:Value)(w:World):(binOp .eql 34 .nilIface (.iface 37 v)).run Tryz.prog w=.ok (.bool false) w:=by kernel_rfl
theorem b9Q(p:Option Addr)(n:Int)(w:World):(binOp .eql 34 (.iface 132 (.pointer p)) (.iface 37 (.int .i64 n))).run Tryz.prog w=.ok (.bool false) w:=by kernel_rfl
theorem b9R(m n:Int)(w:World):(binOp .eql 34 (.iface 37 (.int .i64 m)) (.iface 37 (.int .i64 n))).run Tryz.prog w=.ok (.bool (m==n)) w:=by kernel_rfl
theorem is_nil(n:Int)(w:World):Calls Tryz.prog 57 #[.nilIface,X6 n] w fun e w'=>e=.returned (.bool false)/\w'=w:=by
 unfold X6;have q1:=b9P;have q2:=b9R;go_enter Tryz.func57,Tryz.ntmps57
 go_wp2;go_ret;exact⟨rfl,rfl⟩
theorem c4z(m n:Int)(w:World):Calls Tryz.prog 57 #[X6 m,X6 n] w fun e w'=>e=.returned (.bool (decide (m=n)))/\w'=w:=by
 unfold X6;have h7:=@run_callFunc_extern Tryz.prog 97 _ ReflectliteType.typeOf Tryz.func97 (by kernel_rfl) (by kernel_rfl) (by kernel_rfl) (by kernel_rfl);have h8:=@run_callFunc_extern Tryz.prog 260 _ (ReflectliteType.method fun t=>do Rtype.noPackHeld "Comparable" t;pure (.bool (<-typeInfo t).comparable)) Tryz.func260 (by kernel_rfl) (by kernel_rfl) (by kernel_rfl) (by kernel_rfl);have tO:=a5v;have mC:=a2R;have cE:=b9O;have mU:=methodUnwrap;have q1:=b9P;have q2:=b9R;have q3:=b9Q;have tA1:=run_typeAssert_lacksB (P:=Tryz.prog) (z:=.nilIface) (t:=37) (asserted:=277) rfl (by kernel_rfl) (by kernel_rfl);have tA2:=run_typeAssert_lacksB (P:=Tryz.prog) (z:=.nilIface) (t:=37) (asserted:=280) rfl (by kernel_rfl) (by kernel_rfl);have tA3:=run_typeAssert_lacksB (P:=Tryz.prog) (z:=.nilIface) (t:=37) (asserted:=281) rfl (by kernel_rfl) (by kernel_rfl);have tA4:=run_typeAssert_lacksB (P:=Tryz.prog) (z:=.nilIface) (t:=132) (asserted:=277) rfl (by kernel_rfl) (by kernel_rfl);have tA5:=run_typeAssert_hasB (P:=Tryz.prog) (t:=132) (asserted:=280) rfl (by kernel_rfl);by_cases hmn:m=n
 ·have hb:(m==n)=true:=beq_iff_eq.2 hmn;have hd:decide (m=n)=true:=decide_eq_true hmn;have HD:=Lib.hid hd;clear hd hmn;go_enter Tryz.func57,Tryz.ntmps57
  go_wp2;refine wp_loop_rounds 1 ?_;rw[rounds_succ];go_wp2;go_ret;exact⟨by rw[HD.out];rfl,rfl⟩
 ·have hb:(m==n)=false:=beq_eq_false_iff_ne.2 hmn;have hd:decide (m=n)=false:=decide_eq_false hmn;have HD:=Lib.hid hd;clear hd hmn;go_enter Tryz.func57,Tryz.ntmps57
  go_wp2;refine wp_loop_rounds 1 ?_;rw[rounds_succ];go_wp2;go_ret;exact⟨by rw[HD.out];rfl,rfl⟩
theorem c2C(b:Nat)(name:Nm)(m n:Int)(w:World)(hb:o7 w b 134 #[strV name,.int .i64 m]):
 Calls Tryz.prog 57 #[.iface 132 (.pointer (some ⟨b,0,none⟩)),X6 n] w fun e w'=>e=.returned (.bool (decide (m=n)))/\w'=w:=by
 unfold X6;have c1:=(hb.cell 1).trans (show _=some (Value.int .i64 m) from rfl);clear hb;have h7:=@run_callFunc_extern Tryz.prog 97 _ ReflectliteType.typeOf Tryz.func97 (by kernel_rfl) (by kernel_rfl) (by kernel_rfl) (by kernel_rfl);have h8:=@run_callFunc_extern Tryz.prog 260 _ (ReflectliteType.method fun t=>do Rtype.noPackHeld "Comparable" t;pure (.bool (<-typeInfo t).comparable)) Tryz.func260 (by kernel_rfl) (by kernel_rfl) (by kernel_rfl) (by kernel_rfl);have tO:=a5v;have mC:=a2R;have cE:=b9O;have mU:=methodUnwrap;have q1:=b9P;have q2:=b9R;have q3:=b9Q;have tA1:=run_typeAssert_lacksB (P:=Tryz.prog) (z:=.nilIface) (t:=37) (asserted:=277) rfl (by kernel_rfl) (by kernel_rfl);have tA2:=run_typeAssert_lacksB (P:=Tryz.prog) (z:=.nilIface) (t:=37) (asserted:=280) rfl (by kernel_rfl) (by kernel_rfl);have tA3:=run_typeAssert_lacksB (P:=Tryz.prog) (z:=.nilIface) (t:=37) (asserted:=281) rfl (by kernel_rfl) (by kernel_rfl);have tA4:=run_typeAssert_lacksB (P:=Tryz.prog) (z:=.nilIface) (t:=132) (asserted:=277) rfl (by kernel_rfl) (by kernel_rfl);have tA5:=run_typeAssert_hasB (P:=Tryz.prog) (t:=132) (asserted:=280) rfl (by kernel_rfl);by_cases hmn:m=n
 ·have hb:(m==n)=true:=beq_iff_eq.2 hmn;have hd:decide (m=n)=true:=decide_eq_true hmn;have HD:=Lib.hid hd;clear hd hmn;go_enter Tryz.func57,Tryz.ntmps57
  go_wp2;refine wp_loop_rounds 2 ?_;rw[rounds_succ];go_wp2;all_goals (try rw[rounds_succ])
  all_goals go_wp2
  go_ret;exact⟨by rw[HD.out];rfl,rfl⟩
 ·have hb:(m==n)=false:=beq_eq_false_iff_ne.2 hmn;have hd:decide (m=n)=false:=decide_eq_false hmn;have HD:=Lib.hid hd;clear hd hmn;go_enter Tryz.func57,Tryz.ntmps57
  go_wp2;refine wp_loop_rounds 2 ?_;rw[rounds_succ];go_wp2;all_goals (try rw[rounds_succ])
  all_goals go_wp2
  go_ret;exact⟨by rw[HD.out];rfl,rfl⟩
theorem b4i(er:Er)(v:Value)(n:Int)(w:World)(h:ErrAt w v er)(hn:n≠0):Calls Tryz.prog 57 #[v,X6 n] w fun e w'=>e=.returned (.bool (decide (er.code=n)))/\w'=w:=by
 cases er with
 | ok=>
  obtain rfl:v=.nilIface:=h;have e:decide (Er.code .ok=n)=false:=decide_eq_false (fun h=>hn h.symm)
  rw[e];exact is_nil n w
 | num m=>
  obtain rfl:v=X6 m:=h
  exact c4z m n w
 | file m name=>
  obtain⟨b,rfl,hb⟩:=h;exact c2C b name m n w hb
end
section
open Go.RowKit Go.Lib Go.Maps Dk Pl
theorem a8L(d:D)(n:Nm):(d.size n).2.2.ids=d.ids/\(d.size n).2.2.node=d.node/\(d.size n).2.2.now=d.now/\((d.size n).2.1≠.ok->(d.size n).1=0/\∃k,(d.size n).2.1=.file k n)/\
 ((d.size n).2.1=.ok->∃x,(x∈d.now.map Prod.snd)/\(d.size n).1=((d.node x).data.length:Nat)):=by
 have hm:=a3m d n
 cases hx:(d.find n).1 with
 | none=>
  obtain⟨k,hk⟩:=a8B d n hx;rw[a5z hx]
  exact⟨hm.2.2.1,hm.2.2.2.1,hm.2.1,fun _=>⟨rfl,k,hk⟩,fun h=>by dsimp only at h;rw[hk] at h;cases h⟩
 | some x=>
  rw[a8h hx];refine⟨hm.2.2.1,hm.2.2.2.1,hm.2.1,fun h=>absurd rfl h,fun _=>⟨x,?_,by rw[hm.2.2.2.1]⟩⟩;unfold D.find at hx;split at hx
  ·cases hx
  ·split at hx
   ·cases hx
   ·rename_i y hy;injection hx with hx;subst hx;exact List.mem_map.2 ⟨_,a0y hy,rfl⟩
theorem b0F(F:Nat->Prop)(a:Nat)(d:D)(name:Nm)(w:World)(h:y9 w F a d)(hn:name.length<=maxLen)(hds:∀x∈d.ids,(d.node x).data.length<=35184372088832):
 Calls Tryz.prog 55 #[y8 a,strV name] w (a8D F a (d.whole name) w):=by
 have hsize:=size_any F a d name w h hn;have hsf:=a8L d name;have hwf:=h.wf;obtain⟨⟨k,er,d1⟩,hr⟩:∃r,d.size name=r:=⟨_,rfl⟩;have hw:(er=.ok->d.whole name=d1.readAt name 0 k)/\(er≠.ok->d.whole name=([],er,d1)):=by
  unfold D.whole;rw[hr];cases er
  ·exact⟨fun _=>rfl,fun h=>absurd rfl h⟩
  ·exact⟨fun h=>(by cases h),fun _=>rfl⟩
  ·exact⟨fun h=>(by cases h),fun _=>rfl⟩
 rw[hr] at hsize hsf;dsimp only at hsf;have HS:=Lib.hid hsize;have HW:=Lib.hid hw;clear hsize hw hr h;unfold y8 strV at *;go_enter Tryz.func55,Tryz.ntmps55
 go_wp2_with fail
 refine HS.out.mono ?_;rintro e w1 ⟨v,rfl,hv,hD,hC⟩
 cases er with
 | ok=>
  obtain rfl:v=.nilIface:=hv.get;obtain⟨x,hx,hk⟩:=hsf.2.2.2.2 rfl;obtain⟨p,hp,rfl⟩:=List.mem_map.1 hx;have hkl:=hds _ (hwf.now p hp);have hrd:=a4Y F a d1 name 0 k w1 hD hn (by omega) (by omega) (fun x hx=>by rw[hsf.2.1];rw[hsf.1] at hx;have:=hds x hx;omega);have HR:=Lib.hid hrd;have HC:=Lib.hid hC;clear hrd hC hD hv hsf hk hx hp;unfold y8 strV at HR;go_wp2_with fail
  refine HR.out.mono ?_;rintro e w2 ⟨u,v2,rfl,hB,hv2,hD2,hC2,hfl⟩;have hfin:a8D F a (d.whole name) w (.returned (.tuple #[u,v2])) w2:=by
   rw[HW.out.1 (by trivial)];exact⟨u,v2,rfl,J8 hB HC.out.size,hv2,hD2,HC.out.trans hC2,hfl⟩
  have HF:=Lib.hid hfin;clear hfin hB hv2 hD2 hC2;go_wp2;go_ret2
  exact HF.out
 | num m=>
  obtain⟨_,j,hj⟩:=hsf.2.2.2.1 (by simp)
  cases hj
 | file m nm=>
  obtain⟨b,hvb,-⟩:=hv.get;subst hvb;have hfin:a8D F a (d.whole name) w (.returned (.tuple #[.slice none 0 0,.iface 132 (.pointer (some ⟨b,0,none⟩))])) w1:=by
   rw[HW.out.2 (by simp)];exact⟨_,_,rfl,⟨rfl,Or.inl ⟨rfl,rfl⟩⟩,hv,hD,hC,a2t.nil _ _ _⟩
  have HF:=Lib.hid hfin;clear hfin hv hD hC hsf;go_wp2;go_ret2
  exact HF.out
theorem b2X{w:World}{b:Nat}{x0 x1:Value}(h:o7 w b 125 #[x0,x1])(g:Int)(v:Value):
 w.frozen? ⟨b,0,none⟩=false/\(w.setCell ⟨b,0,none⟩ (.int .u64 g)).cell? ⟨b,1,none⟩=some x1/\(w.setCell ⟨b,0,none⟩ (.int .u64 g)).frozen? ⟨b,1,none⟩=false/\
 ((w.setCell ⟨b,0,none⟩ (.int .u64 g)).setCell ⟨b,1,none⟩ v).cell? ⟨b,0,none⟩=some (.int .u64 g)/\((w.setCell ⟨b,0,none⟩ (.int .u64 g)).setCell ⟨b,1,none⟩ v).cell? ⟨b,1,none⟩=some v:=by
 have h1:=h.set 0 (.int .u64 g);have h2:=h1.set 1 v;refine⟨h.free 0,?_,h1.free 1,?_,?_⟩
 ·rw[h1.cell];simp
 ·rw[h2.cell];simp
 ·rw[h2.cell];simp
def c6w(F:Nat->Prop)(a:Nat)(r:Option (Nat×List Int)×Er×D)(w:World)(e:Ending)(w':World):Prop:=
 ∃g v y,e=.returned (.tuple #[.agg #[.int .u64 g,v],y])/\y9 w' F a r.2.2/\Chg F F w w'/\
  ((r.1=none/\g=0/\v=.slice none 0 0/\r.2.1≠.ok/\Held w' F (fun W=>ErrAt W y r.2.1))\/(∃gen ids,r.1=some (gen,ids)/\r.2.1=.ok/\g=(gen:Int)/\y=.nilIface/\OwnI w' w.heap.size v ids))
theorem b0G{w:World}{F:Nat->Prop}{v:Value}{m:Int}{nm:Nm}(h:Held w F (fun W=>ErrAt W v (.file m nm))):∃b,v=.iface 132 (.pointer (some ⟨b,0,none⟩))/\o7 w b 134 #[strV nm,.int .i64 m]/\¬F b:=by
 obtain⟨b,rfl,hb⟩:=h.get;refine⟨b,rfl,hb,fun hF=>?_⟩;obtain⟨S,h1,h2⟩:=h;obtain⟨b',e,hb'⟩:=h2 {w with heap:=w.heap.setIfInBounds b (.map #[] 0)} fun k hk=>by
  have hne:b≠k:=fun e=>(h1 k hk).2 (e▸hF);show(w.heap.setIfInBounds b _)[k]?=_;rw[Array.getElem?_setIfInBounds_ne hne]
 injection e with _ e;injection e with e;injection e with e;injection e with e;subst e;have h3:(w.heap.setIfInBounds b (.map #[] 0))[b]?=some (.cells #[strV nm,.int .i64 m] 134):=hb';rw[Array.getElem?_setIfInBounds_self_of_lt hb.lt] at h3;cases h3
theorem b2Y(d:D)(n:Nm):(d.whole n).2.1=.ok\/∃k,(d.whole n).2.1=.file k n:=by
 have hs:=a8L d n;unfold D.whole;obtain⟨⟨k,er,d1⟩,hr⟩:∃r,d.size n=r:=⟨_,rfl⟩;rw[hr] at hs⊢;dsimp only at hs⊢
 cases er with
 | ok=>
  dsimp only
  cases hx:(d1.find n).1 with
  | none=>
   obtain⟨j,hj⟩:=a8B d1 n hx;rw[a3n hx]
   exact .inr ⟨j,hj⟩
  | some x=>rw[a4p hx];exact .inl rfl
 | num m=>
  obtain⟨_,j,hj⟩:=hs.2.2.2.1 (by simp)
  cases hj
 | file m nm=>
  obtain⟨_,j,hj⟩:=hs.2.2.2.1 (by simp);injection hj with h1 h2;subst h2;exact .inr ⟨m,rfl⟩
theorem b1F(F:Nat->Prop)(a:Nat)(d:D)(w:World)(h:y9 w F a d)(hds:∀x∈d.ids,(d.node x).data.length<=35184372088832):
 Calls Tryz.prog 54 #[y8 a] w (c6w F a d.readMan w):=by
 have hx0:o7 (w.alloc (.cells #[.int .u64 0,.slice none 0 0] 125)) w.heap.size 125 #[.int .u64 0,.slice none 0 0]:=o7.new _ _ rfl;have hE0:Ext w (w.alloc (.cells #[.int .u64 0,.slice none 0 0] 125)):=(Ext.refl w).new _;have hwh:=b0F F a d H9 _ (h.ext hE0) (by unfold H9 maxLen;simp) hds;have hlow:=h.low;obtain⟨⟨bs,er,d1⟩,hr⟩:∃r,d.whole H9=r:=⟨_,rfl⟩;have hrm:(er=.ok->d.readMan=match readMan bs with|some r=>(some r,.ok,d1)|none=>(none,.num 6,d1))/\(er≠.ok->d.readMan=(none,if er.code=11 then .num 5 else er,d1)):=by
  unfold D.readMan;rw[hr];cases er
  ·exact⟨fun _=>rfl,fun h=>absurd rfl h⟩
  ·exact⟨fun h=>(by cases h),fun _=>rfl⟩
  ·exact⟨fun h=>(by cases h),fun _=>rfl⟩
 have hcl:=b2Y d H9;rw[hr] at hcl;rw[hr] at hwh;have HW:=Lib.hid hwh;have HR:=Lib.hid hrm;have HX:=Lib.hid hx0;have HE:=Lib.hid hE0;have HL:=Lib.hid hlow;clear hwh hrm hr hx0 hE0 hlow h;unfold y8 strV at *;unfold H9 at HW;go_enter Tryz.func54,Tryz.ntmps54
 go_wp2_with fail
 refine HW.out.mono ?_;rintro e w1 ⟨u,v,rfl,hB,hv,hD,hC,-⟩;have hxb:=HX.out;have hx1:o7 w1 w.heap.size 125 #[.int .u64 0,.slice none 0 0]:=(hC.block _ hxb.lt (fun hF=>by have:=HL.out _ hF;omega)).trans hxb;have hC1:=(Chg.ext (F:=F) HE.out).trans hC;have his:=b4i er v 11 w1 hv.get (by omega);have hsz1:w.heap.size<=w1.heap.size:=hC1.size;have hby:=hB.bytes;have c0:=(hx1.cell 0).trans (show _=some (Value.int .u64 0) from rfl);have c1:=(hx1.cell 1).trans (show _=some (Value.slice none 0 0) from rfl);have f0:=hx1.free 0;have f1:=hx1.free 1;have HIS:=Lib.hid his;have HX1:=Lib.hid hx1;have HC:=Lib.hid hC1;have HV:=Lib.hid hv;have HD:=Lib.hid hD;have HBY:=Lib.hid hby;clear his hx1 hC1 hC hD hby HX HW;unfold X6 at HIS
 cases er with
 | ok=>
  obtain rfl:v=.nilIface:=HV.out.get;have hrm:=b1Y u bs w1 HBY.out;have HRM:=Lib.hid hrm;clear hrm hv hB;go_wp2_with fail
  refine HIS.out.mono ?_;rintro e w2 ⟨rfl,rfl⟩;go_wp2_with fail
  refine HRM.out.mono ?_;rintro e w3 ⟨g,v3,y,rfl,hE3,hcase⟩;have hx3:o7 w3 w.heap.size 125 #[.int .u64 0,.slice none 0 0]:=(hE3.block _ HX1.out.lt).trans HX1.out;have d0:=(hx3.cell 0).trans (show _=some (Value.int .u64 0) from rfl);have d1':=(hx3.cell 1).trans (show _=some (Value.slice none 0 0) from rfl);obtain⟨z1,z2,z3,z4,z5⟩:=b2X hx3 g v3;have hD3:=HD.out.ext hE3;have hC3:=HC.out.trans (Chg.ext hE3);have hlowb:∀b,F b->b≠w.heap.size:=fun b hb=>by have:=HL.out b hb;omega
  have hO:=((Off.refl w.heap.size w3).setCell 0 (.int .u64 g)).setCell 1 v3;have hD4:=hD3.frame (fun b hb=>hO.block b (hlowb b hb)) (Nat.le_of_eq hO.size.symm);have hC4:Chg F F w ((w3.setCell ⟨w.heap.size,0,none⟩ (.int .u64 g)).setCell ⟨w.heap.size,1,none⟩ v3):=
   ⟨hO.os.trans hC3.os,hO.tape.trans hC3.tape,hO.output.trans hC3.output,by rw[hO.size];exact hC3.size,fun b hb hF=>(hO.block b (by omega)).trans (hC3.block b hb hF),fun b hb=>.inl hb⟩
  have HD4:=Lib.hid hD4;have HC4:=Lib.hid hC4;have HO:=Lib.hid hO;have HX3:=Lib.hid hx3;clear hD3 hC3 hD4 hC4 hO hx3 hlowb HD HC HV HRM HIS;rcases hcase with⟨hno,rfl,rfl,rfl⟩|⟨gen,ids,hso,rfl,rfl,hown⟩
  ·have hrd:d.readMan=(none,.num 6,d1):=by rw[HR.out.1 (by trivial),hno]
   have HRD:=Lib.hid hrd;clear hrd hno HR;unfold X6;go_wp2;refine bodyPost_ret (v:=.tuple #[.agg #[.int .u64 0,.slice none 0 0],X6 6]) (by simp[results,Tryz.results54,go_sem,z4,z5,X6]) rfl ⟨0,_,_,rfl,?_,?_,Or.inl ⟨?_,rfl,rfl,?_,?_⟩⟩
   ·rw[HRD.out];exact HD4.out
   ·exact HC4.out
   ·rw[HRD.out]
   ·rw[HRD.out];simp
   ·rw[HRD.out];exact b2I _ _ _
  ·obtain⟨ia,ic,hv3⟩:=ownsRow_form hown;subst hv3;have hrd:d.readMan=(some (gen,ids),.ok,d1):=by rw[HR.out.1 (by trivial),hso]
   have HRD:=Lib.hid hrd;have HOWN:=Lib.hid hown;clear hrd hso HR hown;go_wp2;refine bodyPost_ret (v:=.tuple #[.agg #[.int .u64 gen,.slice ia ids.length ic],.nilIface]) (by simp[results,Tryz.results54,go_sem,z4,z5]) rfl ⟨_,_,_,rfl,?_,?_,Or.inr ⟨gen,ids,?_,?_,rfl,rfl,?_⟩⟩
   ·rw[HRD.out];exact HD4.out
   ·exact HC4.out
   ·rw[HRD.out]
   ·rw[HRD.out]
   ·have hne:=G5 HOWN.out HX3.out (by decide)
    exact J8 (Dep.row HOWN.out _ fun b hb=>HO.out.block b fun e=>hne (e▸hb)) hsz1
 | num m=>rcases hcl with h|⟨_,h⟩<;>cases h
 | file m nm=>
  obtain⟨fb,hvb,hfbb,hfbF⟩:=b0G HV.out;subst hvb;obtain⟨z1,z2,z3,z4,z5⟩:=b2X HX1.out 0 (.slice none 0 0);have hlowb:∀b,F b->b≠w.heap.size:=fun b hb=>by have:=HL.out b hb;omega
  have hO:=((Off.refl w.heap.size w1).setCell 0 (.int .u64 0)).setCell 1 (.slice none 0 0);have hD4:=HD.out.frame (fun b hb=>hO.block b (hlowb b hb)) (Nat.le_of_eq hO.size.symm);have hC4:Chg F F w ((w1.setCell ⟨w.heap.size,0,none⟩ (.int .u64 0)).setCell ⟨w.heap.size,1,none⟩ (.slice none 0 0)):=
   ⟨hO.os.trans HC.out.os,hO.tape.trans HC.out.tape,hO.output.trans HC.out.output,by rw[hO.size];exact HC.out.size,fun b hb hF=>(hO.block b (by omega)).trans (HC.out.block b hb hF),fun b hb=>.inl hb⟩
  have hfne:fb≠w.heap.size:=fun e=>by
   subst e;have h3:=HX1.out;unfold o7 at h3 hfbb;rw[h3] at hfbb;injection hfbb with hfbb;injection hfbb with h4 h5 h6;revert h5;decide
  have hH4:Held ((w1.setCell ⟨w.heap.size,0,none⟩ (.int .u64 0)).setCell ⟨w.heap.size,1,none⟩ (.slice none 0 0)) F (fun W=>ErrAt W (.iface 132 (.pointer (some ⟨fb,0,none⟩))) (.file m nm)):=
   (Held.box ((hO.block fb hfne).trans hfbb) hfbF).mono fun W hW=>⟨_,rfl,hW⟩
  by_cases hm:m=11
  ·subst hm;have hrd:d.readMan=(none,.num 5,d1):=HR.out.2 (by simp);have HD4:=Lib.hid hD4;have HC4:=Lib.hid hC4;have HRD:=Lib.hid hrd;clear hD4 hC4 hrd hlowb hO HD HC HR hv hB HBY hH4 hfbb hfbF hfne;have hd:decide (Er.code (.file 11 nm)=11)=true:=rfl;rw[hd] at HIS;clear hd;go_wp2_with fail
   refine HIS.out.mono ?_;rintro e w2 ⟨rfl,rfl⟩;go_wp2;refine bodyPost_ret (v:=.tuple #[.agg #[.int .u64 0,.slice none 0 0],X6 5]) (by simp[results,Tryz.results54,go_sem,z4,z5,X6]) rfl ⟨0,_,_,rfl,?_,?_,Or.inl ⟨?_,rfl,rfl,?_,?_⟩⟩
   ·rw[HRD.out];exact HD4.out
   ·exact HC4.out
   ·rw[HRD.out]
   ·rw[HRD.out];simp
   ·rw[HRD.out];exact b2I _ _ _
  ·have hrd:d.readMan=(none,.file m nm,d1):=by
    have:=HR.out.2 (by simp);rw[this];simp[Er.code,hm]
   have HD4:=Lib.hid hD4;have HC4:=Lib.hid hC4;have HRD:=Lib.hid hrd;have HH4:=Lib.hid hH4;clear hD4 hC4 hrd hlowb hO HD HC HR hv hB HBY hH4 hfbb hfbF hfne;have hd:decide (Er.code (.file m nm)=11)=false:=decide_eq_false hm;rw[hd] at HIS;clear hd;go_wp2_with fail
   refine HIS.out.mono ?_;rintro e w2 ⟨rfl,rfl⟩;go_wp2;refine bodyPost_ret (v:=.tuple #[.agg #[.int .u64 0,.slice none 0 0],.iface 132 (.pointer (some ⟨fb,0,none⟩))]) (by simp[results,Tryz.results54,go_sem,z4,z5,X6]) rfl ⟨0,_,_,rfl,?_,?_,Or.inl ⟨?_,rfl,rfl,?_,?_⟩⟩
   ·rw[HRD.out];exact HD4.out
   ·exact HC4.out
   ·rw[HRD.out]
   ·rw[HRD.out];simp
   ·rw[HRD.out];exact HH4.out
end
section
open Go.RowKit Go.Lib Go.Maps Dk Pl
end
section
open Go.RowKit Go.Lib Go.Maps Dk Pl
theorem a0K{u:Nat}(h:u<10):Lib.decDigits u=[digit u]:=by
 rw[Lib.decDigits,dif_pos h];unfold digit;rw[Nat.mod_eq_of_lt h]
theorem a4M{u:Nat}(h:¬u<10):Lib.decDigits u=Lib.decDigits (u/10)++[digit u]:=by
 rw[Lib.decDigits,dif_neg h];rfl
theorem b2V(u:Nat):∀k,sfx u (k+1)=sfx (u/10) k++[digit u]:=by
 intro k
 induction k with
 | zero=>simp[sfx]
 | succ k ih=>
  have e1:sfx u (k+1+1)=digit (u/10^(k+1))::sfx u (k+1):=rfl;have e2:sfx (u/10) (k+1)=digit (u/10/10^k)::sfx (u/10) k:=rfl;rw[e1,e2,ih,Nat.div_div_eq_div_mul,Nat.pow_succ,Nat.mul_comm];rfl
theorem b9T:∀m,sfx 0 m=Lib.repeatL [48] m:=by
 intro m
 induction m with
 | zero=>rfl
 | succ m ih=>
  have e1:sfx 0 (m+1)=digit (0/10^m)::sfx 0 m:=rfl;rw[e1,ih,Nat.zero_div];rfl
theorem c2E:∀(k u:Nat),u<10^(k+1)->∃j,(Lib.decDigits u).length+j=k+1/\Lib.repeatL [48] j++Lib.decDigits u=sfx u (k+1):=by
 intro k
 induction k with
 | zero=>
  intro u h;have h':u<10:=by simpa using h
  exact⟨0,by rw[a0K h'];rfl,by rw[a0K h'];simp[sfx,Lib.repeatL]⟩
 | succ k ih=>
  intro u h;by_cases h':u<10
  ·refine⟨k+1,by rw[a0K h'];simp;omega,?_⟩;rw[a0K h',b2V u (k+1),show u/10=0 by omega,b9T]
  ·obtain⟨j,h1,h2⟩:=ih (u/10) (by rw[Nat.pow_succ] at h;omega);refine⟨j,by rw[a4M h'];simp;omega,?_⟩;rw[a4M h',b2V u (k+1),<-h2,List.append_assoc]
def a0F(w:World):Prop:=Lib.TabIs Tryz.prog w "internal/strconv.uint64pow10" .u64 Lib.pow10Tab
theorem b9U(w:World)(k:Nat)(os:Array Obj):Ext w (Go.Sort.grow (w.drewN k) os):=by
 have h:=Ext.drewN w k;refine⟨h.os,h.tape,h.output,?_,fun b hb=>?_⟩
 ·show w.heap.size<=((w.drewN k).heap++os).size;have:=h.size;simp only[Array.size_append];omega
 ·show((w.drewN k).heap++os)[b]?=_;rw[Array.getElem?_append_left (by have:=h.size;omega)];exact h.block b hb
theorem a6x(kind:Nm)(id:Nat)(w:World)(hk:kind.length<=1000)(hid:id<=999999)(hl:a0F w):
 Calls Tryz.prog 56 #[strV kind,.int .i64 id] w fun e w'=>e=.returned (strV (D7 kind id))/\Ext w w':=by
 obtain⟨j,hj,hpad⟩:=c2E 5 id (by omega);have hit:Lib.itoa (id:Int)=Lib.decDigits id:=by unfold Lib.itoa;rw[if_neg (by omega)];rfl
 have hi:=Tryz.strconv_Itoa (id:Int) (by omega) (by omega) w hl;rw[hit] at hi;obtain⟨ds,hds⟩:∃ds,Lib.decDigits id=ds:=⟨_,rfl⟩;rw[hds] at hi hj hpad;have HI:=Lib.hid hi;have HP:=Lib.hid hpad;clear hi hpad hit hds hl;unfold strV;go_enter Tryz.func56,Tryz.ntmps56
 go_wp2_with fail
 refine HI.out.mono ?_;rintro e w1 ⟨rfl,kd,os,rfl⟩;have hE1:=b9U w kd os;have hr:=Tryz.strings_Repeat ⟨#[48]⟩ j (Go.Sort.grow (w.drewN kd) os) (by omega) (by show 1*j<=_;omega);have hsub:(6:Int) - (ds.length:Int)=(j:Int):=by omega
 have HE:=Lib.hid hE1;have HR:=Lib.hid hr;clear hE1 hr;have hdl:ds.length<=6:=by omega
 have hrl:(Lib.repeatL [48] j).length=j:=by rw[Lib.repeatL_length];simp
 obtain⟨zs,hzs⟩:∃zs,Lib.repeatL [48] j=zs:=⟨_,rfl⟩;rw[hzs] at hrl;have hjl:zs.length<=6:=by omega
 have HZ:=Lib.hid hzs;clear hzs hrl;go_wp2_with fail
 refine HR.out.mono ?_;rintro e w2 ⟨rfl,hE2⟩;have hE3:=Ext.trans HE.out hE2;have HE3:=Lib.hid hE3;clear hE3 hE2;rw[show Lib.repeatL (⟨#[48]⟩:ByteArray).data.toList j=zs from HZ.out];go_wp2;go_ret;refine⟨?_,HE3.out⟩;rw[a7l,<-HP.out,HZ.out,<-List.append_assoc,<-a8l,<-a8l];rfl
end
def a6n(x:Nat->Value):Array Value:=#[x 0,x 1,x 2,x 3,x 4,x 5,x 6,x 7,x 8,x 9,x 10,x 11,x 12,x 13,x 14,x 15,x 16,x 17,x 18,x 19,x 20,x 21,x 22,x 23,x 24,x 25,x 26,x 27,x 28,x 29,x 30,x 31,x 32,x 33,x 34,x 35,x 36,x 37,x 38,x 39,x 40,x 41,x 42,x 43,x 44,x 45,x 46,x 47,x 48,x 49,x 50,x 51,x 52,x 53,x 54,x 55,x 56,x 57,x 58,x 59,x 60,x 61,x 62,x 63,x 64,x 65,x 66,x 67,x 68,x 69,x 70,x 71,x 72,x 73,x 74,x 75,x 76,x 77,x 78,x 79,x 80,x 81,x 82,x 83,x 84,x 85,x 86,x 87,x 88,x 89,x 90,x 91,x 92,x 93,x 94,x 95,x 96,x 97,x 98,x 99,x 100,x 101,x 102,x 103,x 104,x 105,x 106,x 107,x 108,x 109,x 110,x 111,x 112,x 113,x 114,x 115,x 116,x 117]
def b1g(x:Nat->Value):Array Value:=#[x 0,x 1,x 2,x 3,x 4,x 5,x 6,x 7,x 8,x 9,x 10,x 11,x 12,x 13,x 14,x 15,x 16,x 17,x 18,x 19,x 20,x 21,x 22,x 23,x 24,x 25,x 26,x 27,x 28,x 29,x 30,x 31,x 32,x 33,x 34,x 35,x 36,x 37,x 38,x 39,x 40,x 41,x 42,x 43,x 44,x 45,x 46,x 47,x 48,x 49,x 50,x 51,x 52,x 53,x 54,x 55,x 56,x 57,x 58,x 59,x 60,x 61,x 62,x 63,x 64,x 65,x 66,x 67,x 68,x 69,x 70,x 71,x 72,x 73,x 74,x 75,x 76,x 77,x 78,x 79,x 80,x 81,x 82,x 83,x 84,x 85,x 86,x 87,x 88,x 89,x 90,x 91,x 92,x 93,x 94,x 95,x 96,x 97,x 98,x 99,x 100,x 101,x 102,x 103,x 104,x 105,x 106,x 107,x 108,x 109,x 110,x 111,x 112,x 113,x 114,x 115,x 116,x 117,x 118,x 119,x 120,x 121,x 122,x 123,x 124,x 125,x 126,x 127,x 128,x 129,x 130,x 131,x 132,x 133,x 134,x 135,x 136,x 137,x 138,x 139,x 140,x 141,x 142,x 143,x 144,x 145,x 146,x 147,x 148,x 149,x 150,x 151,x 152,x 153]
def up(x:Nat->Value)(k:Nat)(v:Value)(j:Nat):Value:=if j=k then v else x j
theorem a5t{x:Nat->Value}{k:Nat}{v:Value}(h:x k=v):up x k v=x:=by
 funext j
 unfold up;split
 ·rename_i e;rw[e,h]
 ·rfl
theorem X5{A:(Nat->Value)->Array Value}{T:Array Value}{x:Nat->Value}{k:Nat}{v:Value}(e:T=A x)(h:x k=v):T=A (up x k v):=by
 rw[a5t h];exact e
theorem L6{T:Array Value}{k:Nat}{v:Value}(h:T[k]?=some v):T.getD k undef=v:=by
 rw[Array.getD_eq_getD_getElem?,h];rfl
theorem c1S{A:(Nat->Value)->Array Value}{n:Nat}(hA:∀x,A x=((List.range n).map x).toArray)(x:Nat->Value){k:Nat}(hk:k<n):(A x)[k]?=some (x k):=by
 rw[hA];simp[hk]
theorem b5K{A:(Nat->Value)->Array Value}{n:Nat}(hA:∀x,A x=((List.range n).map x).toArray)(T:Array Value)(hT:T.size=n):T=A (fun k=>T.getD k undef):=by
 rw[hA];apply Array.ext
 ·simp[hT]
 ·intro j h1 h2;simp[Array.getD,h1]
theorem b8T(x:Nat->Value):a6n x=((List.range 118).map x).toArray:=by rfl
theorem b2r(x:Nat->Value):b1g x=((List.range 154).map x).toArray:=by rfl
theorem a13(T:Array Value)(hT:T.size=118):T=a6n (fun k=>T.getD k undef):=b5K b8T T hT
theorem b3V(T:Array Value)(hT:T.size=154):T=b1g (fun k=>T.getD k undef):=b5K b2r T hT
theorem b1h(T:Array Value)(hT:T.size=154):∃x,T=b1g x/\∀k,k<154->T[k]?=some (x k):=by
 refine⟨_,b3V T hT,fun k hk=>?_⟩;rw[Array.getD_eq_getD_getElem?,Array.getElem?_eq_getElem (by omega)];rfl
section
open Go.RowKit Go.Lib Go.Maps Dk Pl
def QO1(F:Nat->Prop)(a:Nat)(d:D)(w:World):Exit->Act->World->Prop
 | .normal,a',w'=>a'.defers=[]/\a'.tmps.size=118/\a'.tmps[0]?=some (y8 a)/\a'.tmps[2]?=some (.pointer none)/\a'.tmps[3]?=some .nilIface/\∃mb g v y,a'.tmps[4]?=some (.pointer (some ⟨mb,0,none⟩))/\a'.tmps[5]?=some y/\w.heap.size<=mb/\
  o7 w' mb 125 #[.int .u64 g,v]/\y9 w' F a d.readMan.2.2/\Chg F F w w'/\
  ((d.readMan.1=none/\d.readMan.2.1≠.ok/\Held w' F (fun W=>ErrAt W y d.readMan.2.1))\/(∃gen ids,d.readMan.1=some (gen,ids)/\d.readMan.2.1=.ok/\g=(gen:Int)/\y=.nilIface/\OwnI w' w.heap.size v ids))
 | _,_,_=>False
noncomputable def N9(n:Nat):Code:=Code.head (H8 n)
def QO0(a:Nat)(w:World):Exit->Act->World->Prop
 | .normal,a',w'=>a'.defers=[]/\a'.tmps.size=118/\a'.tmps[0]?=some (y8 a)/\a'.tmps[2]?=some (.pointer none)/\a'.tmps[3]?=some .nilIface/\w'=w
 | _,_,_=>False
theorem t0{a:Nat}(T:Array Value)(hT:T.size=118)(h0:T[0]?=some (y8 a))(w:World):(N9 0).wp Tryz.prog (QO0 a w) ⟨T,[]⟩ w:=by
 rw[X5 (a13 T hT) (k:=0) (L6 h0)];generalize (fun k=>T.getD k undef)=x;clear hT h0;unfold N9 H8;simp only[Code.behind,Code.head,Tryz.f14,Option.getD_some,a6n,up,reduceIte,Nat.reduceEqDiff];go_wp2;exact⟨rfl,rfl,rfl,rfl,rfl,rfl⟩
theorem t1{a:Nat}(T:Array Value)(hT:T.size=118)(h0:T[0]?=some (y8 a))(h2:T[2]?=some (.pointer none))(h3:T[3]?=some (.nilIface))(F:Nat->Prop)(d:D)(w:World)(h:y9 w F a d)(hds:∀x∈d.ids,(d.node x).data.length<=35184372088832):(N9 1).wp Tryz.prog (QO1 F a d w) ⟨T,[]⟩ w:=by
 rw[X5 (X5 (X5 (a13 T hT) (k:=0) (L6 h0)) (k:=2) (L6 h2)) (k:=3) (L6 h3)];generalize (fun k=>T.getD k undef)=x;clear hT h0 h2 h3;have hrm:=b1F F a d w h hds;have HRM:=Lib.hid hrm;clear hrm;unfold N9 H8;unfold y8 at *;simp only[Code.behind,Code.head,Tryz.f14,Option.getD_some,a6n,up,reduceIte,Nat.reduceEqDiff];go_wp2_with fail
 refine HRM.out.mono ?_;rintro e w1 ⟨g,v,y,rfl,hD,hC,hcase⟩;obtain⟨ia,ik,ic,rfl⟩:∃ia ik ic,v=.slice ia ik ic:=by
  rcases hcase with⟨_,_,h,_⟩|⟨_,_,_,_,_,_,h⟩
  ·exact⟨_,_,_,h⟩
  ·obtain⟨x,y,h⟩:=ownsRow_form h;exact⟨_,_,_,h⟩
 have HD:=Lib.hid hD;have HC:=Lib.hid hC;have HK:=Lib.hid hcase;clear hD hC hcase h;go_wp2;have hE:Ext w1 (w1.alloc (.cells #[.int .u64 g,.slice ia ik ic] 125)):=(Ext.refl w1).new _;refine⟨rfl,rfl,rfl,rfl,rfl,w1.heap.size,g,.slice ia ik ic,y,rfl,rfl,HC.out.size,o7.new _ _ rfl,HD.out.ext hE,HC.out.trans (Chg.ext hE),?_⟩;rcases HK.out with⟨h1,h2,h3,h4,h5⟩|⟨gen,ids,h1,h2,h3,h4,h5⟩
 ·exact .inl ⟨h1,h4,h5.ext hE⟩
 ·exact .inr ⟨gen,ids,h1,h2,h3,h4,Dep.row h5 _ fun b hb=>hE.block b (a8I h5 hb)⟩
end
section
open Go.RowKit Go.Lib Go.Maps Dk Pl
theorem b4j:(Tryz.prog.info? 25).map (fun i=>(i.zero,i.size,i.bytes))=some (some (.slice none 0 0),1,24):=by kernel_rfl
theorem b9V(z:Value)(n:Nat):madeCells #[z] n=(List.replicate n z).toArray:=by
 apply Array.ext
 ·simp[madeCells]
 ·intro i h1 h2;simp[madeCells,Nat.mod_one]
def QO3(a mb:Nat)(n:Nat)(w:World):Exit->Act->World->Prop
 | .normal,a',w'=>a'.defers=[]/\a'.tmps.size=118/\a'.tmps[0]?=some (y8 a)/\a'.tmps[4]?=some (.pointer (some ⟨mb,0,none⟩))/\Ext w w'/\∃fb rb,a'.tmps[6]?=some (.pointer (some ⟨fb,0,none⟩))/\w.heap.size<=fb/\w.heap.size<=rb/\
  o7 w' fb 128 #[.slice (some ⟨rb,0,none⟩) n n]/\w'.heap[rb]?=some (.cells (List.replicate n (Value.slice none 0 0)).toArray 25)
 | _,_,_=>False
theorem t3{a mb:Nat}(T:Array Value)(hT:T.size=118)(h0:T[0]?=some (y8 a))(h4:T[4]?=some (.pointer (some ⟨mb,0,none⟩)))(g:Int)(v:Value)(ids:List Int)(w:World)(hb:o7 w mb 125 #[.int .u64 g,v])(hv:∃B,OwnI w B v ids)(hn:ids.length<=60):(N9 3).wp Tryz.prog (QO3 a mb ids.length w) ⟨T,[]⟩ w:=by
 rw[X5 (X5 (a13 T hT) (k:=0) (L6 h0)) (k:=4) (L6 h4)];generalize (fun k=>T.getD k undef)=x;clear hT h0 h4;obtain⟨B,hv⟩:=hv;obtain⟨ia,ic,rfl⟩:=ownsRow_form hv;have hmk:=run_make_row' (P:=Tryz.prog) 128 25 (.slice none 0 0) 24 Tryz.underlying128 b4j rfl .i64 .i64 ids.length (by omega) (by omega) w;have c1:=(hb.cell 1).trans (show _=some (Value.slice ia ids.length ic) from rfl);unfold N9 H8 y8 at *;simp only[Code.behind,Code.head,Tryz.f14,Option.getD_some,a6n,up,reduceIte,Nat.reduceEqDiff];go_wp2;have hE1:Ext w (w.alloc (.cells (madeCells #[.slice none 0 0] ids.length) 25)):=(Ext.refl w).new _;have hE2:Ext (w.alloc (.cells (madeCells #[.slice none 0 0] ids.length) 25)) ((w.alloc (.cells (madeCells #[.slice none 0 0] ids.length) 25)).alloc (.cells #[.slice (some ⟨w.heap.size,0,none⟩) ids.length ids.length] 128)):=(Ext.refl _).new _;refine⟨rfl,rfl,rfl,rfl,Ext.trans hE1 hE2,w.heap.size+1,w.heap.size,by rfl,by omega,Nat.le_refl _,?_,?_⟩
 ·show(World.heap _)[_]?=_;rw[show w.heap.size+1=(w.alloc (.cells (madeCells #[.slice none 0 0] ids.length) 25)).heap.size from(Array.size_push ..).symm];exact Array.getElem?_push_size
 ·rw[b9V];show((w.heap.push _).push _)[w.heap.size]?=_;rw[Array.getElem?_push_lt (by simp),Array.getElem_push_eq]
end
section
open Dk
def Dk.D.opensAcc:List Int->D->List (List UInt8)->List (List UInt8)×Er×D
 | [],d,acc=>(acc,.ok,d)
 | id::ids,d,acc=>match d.whole (D7 G8 id.toNat) with
  | (b,.ok,d1)=>D.opensAcc ids d1 (acc++[b])
  | (_,e,d1)=>(acc,if e.code=11 then .file 7 (D7 G8 id.toNat) else e,d1)
theorem a3U{id:Int}{ids:List Int}{d d1:D}{acc:List (List UInt8)}{b:List UInt8}(h:d.whole (D7 G8 id.toNat)=(b,.ok,d1)):D.opensAcc (id::ids) d acc=D.opensAcc ids d1 (acc++[b]):=by
 show(match d.whole (D7 G8 id.toNat) with|(b,.ok,d1)=>D.opensAcc ids d1 (acc++[b])|(_,e,d1)=>(acc,if e.code=11 then .file 7 (D7 G8 id.toNat) else e,d1))=_;rw[h]
theorem a1K{id:Int}{ids:List Int}{d d1:D}{acc:List (List UInt8)}{b:List UInt8}{e:Er}(h:d.whole (D7 G8 id.toNat)=(b,e,d1))(he:e≠.ok):D.opensAcc (id::ids) d acc=(acc,if e.code=11 then .file 7 (D7 G8 id.toNat) else e,d1):=by
 show(match d.whole (D7 G8 id.toNat) with|(b,.ok,d1)=>D.opensAcc ids d1 (acc++[b])|(_,e,d1)=>(acc,if e.code=11 then .file 7 (D7 G8 id.toNat) else e,d1))=_;rw[h]
 cases e with
 | ok=>exact absurd rfl he
 | num n=>rfl
 | file n m=>rfl
structure a2v(d d':D):Prop where
 now:d'.now=d.now
 safe:d'.safe=d.safe
 moves:d'.moves=d.moves
 room:d'.room=d.room
 ids:d'.ids=d.ids
 node:d'.node=d.node
theorem a2v.refl(d:D):a2v d d:=⟨rfl,rfl,rfl,rfl,rfl,rfl⟩
theorem a2v.trans{a b c:D}(h:a2v a b)(k:a2v b c):a2v a c:=⟨k.now.trans h.now,k.safe.trans h.safe,k.moves.trans h.moves,k.room.trans h.room,k.ids.trans h.ids,k.node.trans h.node⟩
theorem Dk.D.fails_same(d:D):a2v d d.fails.2:=let ⟨h1,h2,h3,h4,h5,h6⟩:=d.fails_now;⟨h1,h2,h3,h4,h5,h6⟩
theorem Dk.D.find_same(d:D)(n:Nm):a2v d (d.find n).2.2:=by
 unfold D.find;split
 ·exact d.fails_same
 ·cases D9 d.now n<;>exact d.fails_same
theorem Dk.D.size_same(d:D)(n:Nm):a2v d (d.size n).2.2:=by
 have h:=d.find_same n;unfold D.size;obtain⟨⟨o,e,d1⟩,hr⟩:∃r,d.find n=r:=⟨_,rfl⟩;rw[hr] at h⊢;cases o<;>exact h
theorem Dk.D.readAt_same(d:D)(n:Nm)(i k:Int):a2v d (d.readAt n i k).2.2:=by
 have h:=d.find_same n;unfold D.readAt;obtain⟨⟨o,e,d1⟩,hr⟩:∃r,d.find n=r:=⟨_,rfl⟩;rw[hr] at h⊢;cases o<;>exact h
theorem Dk.D.whole_same(d:D)(n:Nm):a2v d (d.whole n).2.2:=by
 have h:=d.size_same n;unfold D.whole;obtain⟨⟨k,e,d1⟩,hr⟩:∃r,d.size n=r:=⟨_,rfl⟩;rw[hr] at h⊢
 cases e with
 | ok=>exact h.trans (d1.readAt_same n 0 k)
 | num n=>exact h
 | file n m=>exact h
theorem Dk.D.readMan_same(d:D):a2v d d.readMan.2.2:=by
 have h:=d.whole_same H9;unfold D.readMan;obtain⟨⟨k,e,d1⟩,hr⟩:∃r,d.whole H9=r:=⟨_,rfl⟩;rw[hr] at h⊢
 cases e with
 | ok=>dsimp only;cases Go.Proofs.YtgpbhjjajpbeeaaGreatDoor.readMan k<;>exact h
 | num n=>exact h
 | file n m=>exact h
end
section
open Go.RowKit Go.Lib Go.Maps Dk Pl
end
section
open Go.RowKit Go.Lib Go.Maps Dk Pl
theorem a2s.ext{w w':World}{v:Value}{l:Fl}(h:a2s w v l)(hE:Ext w w'):a2s w' v l:=by
 obtain⟨a,cap,rows,rfl,h1,h2,h3,h4,h5⟩:=h;refine⟨a,cap,rows,rfl,h1,h2,h3,fun i p hp=>?_,fun i p q hp hq=>⟨(h5 i p q hp hq).1,(h5 i p q hp hq).2.ext hE⟩⟩;obtain⟨g,hg,c0,c1⟩:=h4 i p hp;exact⟨g,hg,hE.cell c0,hE.cell c1⟩
def c6h(w:World)(b:Nat)(ids:List Int):Prop:=
 ∃(gen:Int)(a:Option Addr)(cap:Nat),o7 w b 50 #[.int .u64 gen,.slice a ids.length cap]/\ids.length<=cap/\cap<=9223372036854775807/\
  ∀(i:Nat)x,ids[i]?=some x->∃g,a=some ⟨g,0,none⟩/\w.cell? ⟨g,i*3,none⟩=some (.int .i64 x)
def a4j(ids:List Int):Prop:=ids.length<=60/\∀x∈ids,1<=x/\x<=999999
end
end Go.Proofs.YtgpbhjjajpbeeaaGreatDoor
