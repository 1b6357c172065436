/- A part of what the last file proves. -/
import Derived.Test.YtgpbhjjajpbeeaaGreatDoorR22
import Derived.Deep.DeepCutAuto
import Derived.RowKit
set_option linter.all false
set_option maxRecDepth 100000
set_option maxHeartbeats 3200000
namespace Go.Proofs.YtgpbhjjajpbeeaaGreatDoor
section
open Go.RowKit Go.Lib Go.Maps Dk Pl
theorem Held.laid{w0 wr:World}{F:Nat->Prop}(h:Laid w0)(hE:Ext w0 wr)(hF:∀b,F b->w0.heap.size<=b):Held wr F Laid:=by
 have hlt:0<w0.heap.size:=Classical.byContradiction fun hn=>by
  unfold Laid World.cell? at h;have:w0.heap[0]?=none:=by rw[Array.getElem?_eq_none];omega
  rw[this] at h;cases h
 refine .of (S:=fun b=>b=0) (fun w' hw=>?_) fun b e=>by subst e;exact⟨Nat.lt_of_lt_of_le hlt hE.size,fun hb=>by have:=hF _ hb;omega⟩
 have h2:=Laid.ext h hE;unfold Laid World.cell? at h2⊢;rw[hw _ rfl];exact h2
theorem Held.lift{w0 wr:World}{F:Nat->Prop}{Φ:World->Prop}(h:Held w0 (fun _=>False) Φ)(hE:Ext w0 wr)(hF:∀b,F b->w0.heap.size<=b):Held wr F Φ:=by
 obtain⟨S,h1,h2⟩:=h;exact⟨S,fun b hb=>⟨Nat.lt_of_lt_of_le (h1 b hb).1 hE.size,fun hb'=>by have:=hF b hb';have:=(h1 b hb).1;omega⟩,fun w' hw=>h2 w' fun b hb=>(hw b hb).trans (hE.block b (h1 b hb).1)⟩
structure LSt(w0:World)(a k:Nat)(F:Nat->Prop)(E:D)(wr:World):Prop where
 disk:A8 wr F a E
 built:E.Built k
 ext:Ext w0 wr
 low:∀b,F b->w0.heap.size<=b
theorem LSt.to{w0:World}{a k:Nat}{F:Nat->Prop}{E:D}{wr w':World}(h:LSt w0 a k F E wr)(hE:Ext wr w'):LSt w0 a k F E w':=⟨h.disk.ext hE,h.built,h.ext.trans hE,h.low⟩
theorem LSt.more{w0:World}{a k m:Nat}{F:Nat->Prop}{E:D}{wr:World}(h:LSt w0 a k F E wr)(hk:k<=m):LSt w0 a m F E wr:=⟨h.disk,h.built.more hk,h.ext,h.low⟩
theorem LSt.file{w0:World}{a k:Nat}{F:Nat->Prop}{E:D}{wr w':World}{e:Ending}(h:LSt w0 a k F E wr)(hf:b1g F a (k+1) wr e w'):∃F' E',LSt w0 a (k+1) F' E' w'/\Chg F F' wr w':=by
 obtain⟨-,F',E',hD,hB,hC,hF⟩:=hf;refine⟨F',E',⟨hD,hB,?_,fun b hb=>?_⟩,hC⟩
 ·exact h.ext.trans' (hC.below h.low h.ext.size)
 ·rcases hC.grow b hb with h1|h1
  ·exact h.low b h1
  ·have:=h.ext.size;omega
theorem a5q(kind:Nm)(k:Nat):(G5 kind k).length=kind.length+6:=by simp[G5]
theorem b6P(b:ByteArray):strV b.data.toList=.string b:=rfl
structure a3D(n0:Nat)(F:Nat->Prop)(v:Value)(l:List Int)(w:World):Prop where
 own:OwnI w n0 v l
 off:∀b,v.ownBlock=some b->¬F b
theorem a3D.held{n0:Nat}{F:Nat->Prop}{v:Value}{l:List Int}{w:World}(h:a3D n0 F v l w):Held w F (fun W=>OwnI W n0 v l):=
 .of (Dep.row h.own) fun b hb=>⟨(World.ownsRow.lt h.own b hb).2,h.off b hb⟩
theorem a3D.step{n0:Nat}{F F':Nat->Prop}{v:Value}{l:List Int}{w w':World}(h:a3D n0 F v l w)(c:Chg F F' w w'):a3D n0 F' v l w':=
 ⟨(h.held.step c).get,fun b hb hF=>(c.grow b hF).elim (h.off b hb) fun h1=>by have:=(World.ownsRow.lt h.own b hb).2;omega⟩
theorem a3D.to{n0:Nat}{F:Nat->Prop}{v:Value}{l:List Int}{w w':World}(h:a3D n0 F v l w)(hE:Ext w w'):a3D n0 F v l w':=h.step (Chg.ext hE)
def b5x(w:World)(e:Ending)(w':World):Prop:=
 ∃a F d,e=.returned (y8 a)/\A8 w' F a d/\d.Safe/\(∀x∈d.ids,(d.node x).data.length<=1099511627776)/\d.now.length<=400/\(∀p∈d.now,p.1.length<=1000000)/\Ext w w'/\∀b,F b->w.heap.size<=b
theorem b88(v:Value)(d:Dr)(w:World)(h:b09 w v d)(hs:d.Small)(hL:Laid w):
 Calls Tryz.prog 13 #[v,.int .i64 1099511627776] w (b5x w):=by
 obtain⟨v0,v1,v3,rfl,h0,h1,h3⟩:=h;obtain⟨a0,c0,rfl,hl0,hm0⟩:=h0.form;obtain⟨a1,c1,rfl,hl1,hm1⟩:=h1.form;obtain⟨a3,c3,rfl,hl3,hm3,-⟩:=h3.open;obtain⟨w0,hw0⟩:∃w0,w.alloc (.cells #[.slice a0 d.segs.length c0,.slice a1 d.others.length c1,.int .u64 d.gen,.slice a3 d.spoilt.length c3,.bool d.whole,.bool d.without] 27)=w0:=⟨_,rfl⟩;have hb0:o7 w0 w.heap.size 27 #[.slice a0 d.segs.length c0,.slice a1 d.others.length c1,.int .u64 d.gen,.slice a3 d.spoilt.length c3,.bool d.whole,.bool d.without]:=hw0▸o7.new _ _ rfl;have hEw:Ext w w0:=hw0▸(Ext.refl w).new _;have b0:=(hb0.cell 0).trans (show _=some (Value.slice a0 d.segs.length c0) from rfl);have b1:=(hb0.cell 1).trans (show _=some (Value.slice a1 d.others.length c1) from rfl);have b2:=(hb0.cell 2).trans (show _=some (Value.int .u64 d.gen) from rfl);have b3:=(hb0.cell 3).trans (show _=some (Value.slice a3 d.spoilt.length c3) from rfl);have b4:=(hb0.cell 4).trans (show _=some (Value.bool d.whole) from rfl);have b5:=(hb0.cell 5).trans (show _=some (Value.bool d.without) from rfl);have hnew:=b2n 1099511627776 w0 (by omega);have H0:=Lib.hid (h0.ext fun _ _=>a9j.ext hEw);have H1:=Lib.hid (h1.ext fun _ _=>b08.ext hEw);have H3:=Lib.hid (h3.ext hEw);have HS:=Lib.hid hs;have HL0:=Lib.hid (hL.ext hEw);have HEW:=Lib.hid hEw;have HW0:=Lib.hid hw0;have HNEW:=Lib.hid hnew;have B0:=Lib.hid b0;have B1:=Lib.hid b1;have B2:=Lib.hid b2;have B3:=Lib.hid b3;have B4:=Lib.hid b4;have B5:=Lib.hid b5;clear h0 h1 h3 hs hL hEw hw0 hb0 hnew b0 b1 b2 b3 b4 b5;obtain⟨i0,hi,hz0,hz1,hz2⟩:=info_parts a4m;obtain⟨ii,hii,hi0,hi1,hi2⟩:=info_parts a8t;obtain⟨n0,hn0⟩:∃n0,w0.heap.size=n0:=⟨_,rfl⟩;go_enter Tryz.func13,Tryz.ntmps13
 go_wp2_with fail
 rw[HW0.out];refine HNEW.out.mono ?_;rintro e w1 ⟨a,F1,rfl,hD1,hE1,hF1⟩;have hl1':a3D n0 F1 (.slice none 0 0) [] w1:=⟨⟨rfl,.inl ⟨rfl,rfl⟩⟩,fun b hb=>by cases hb⟩;have HD1:=Lib.hid hD1;have HE1:=Lib.hid hE1;have HF1:=Lib.hid hF1;have HL1:=Lib.hid hl1';clear hD1 hE1 hF1 hl1' HNEW;unfold y8;go_wp2;go_loopw [6,7] (fun ids i wr=>∃(k:Nat)(F:Nat->Prop)(D:D)(l:List Int),k<=d.segs.length/\i=.int .i64 k/\LSt w0 a k F D wr/\l.length<=k/\a3D n0 F ids l wr) (fun _ i _=>d.segs.length - (intOf i).toNat)
 case atStart=>exact⟨0,F1,_,[],by omega,rfl,⟨HD1.out,D.Built.empty,HE1.out,HF1.out⟩,by simp,HL1.out⟩
 case round=>
  obtain⟨k,F,E,l,hk,rfl,hST,hll,hI⟩:=hrel;have b0:=hST.ext.cell B0.out;have HST:=Lib.hid hST;have HI:=Lib.hid hI;obtain⟨ia,ic,hiv⟩:=ownsRow_form hI.own;subst hiv;clear hST hI;have hsg:=HS.out.segs;by_cases hlt:k<d.segs.length
  ·obtain⟨s,hs⟩:∃s,d.segs[k]?=some s:=⟨_,List.getElem?_eq_getElem hlt⟩;have hsm:=List.mem_of_getElem? hs;have hst:=HS.out.tail s hsm;have hsr:=HS.out.recs s hsm;obtain⟨b,rfl,u1,u2,s0,s1,s2,s3,s4,hrec,htail⟩:=(H0.out.ext fun _ _=>a9j.ext HST.out.ext).at hs;obtain⟨ra,rc,rfl,hrc,hrc'⟩:=hrec.form;obtain⟨ta,tc,rfl,htc,htc',-⟩:=htail.open;have HREC:=Lib.hid hrec;have HSR:=Lib.hid hsr;have HTL:=Lib.hid htail;clear hrec htail hs hsm hsr;obtain⟨nb,hnb⟩:∃nb,wr.heap.size=nb:=⟨_,rfl⟩;obtain⟨wA,hwA⟩:∃wA,wr.alloc (.cells #[.int .i64 s.id,.slice ra s.recs.length rc,.slice ta s.tail.length tc,.bool s.listed,.bool s.gone] 94)=wA:=⟨_,rfl⟩;have hbA:o7 wA nb 94 #[.int .i64 s.id,.slice ra s.recs.length rc,.slice ta s.tail.length tc,.bool s.listed,.bool s.gone]:=hwA▸o7.new _ _ hnb;have hEA:Ext wr wA:=hwA▸(Ext.refl wr).new _;have q1:=(hbA.cell 1).trans (show _=some (Value.slice ra s.recs.length rc) from rfl);have q2:=(hbA.cell 2).trans (show _=some (Value.slice ta s.tail.length tc) from rfl);have q3:=(hbA.cell 3).trans (show _=some (Value.bool s.listed) from rfl);have q4:=(hbA.cell 4).trans (show _=some (Value.bool s.gone) from rfl);have hid:=b89 s.id wA;have hboxA:Held wA F (fun W=>o7 W nb 94 #[.int .i64 s.id,.slice ra s.recs.length rc,.slice ta s.tail.length tc,.bool s.listed,.bool s.gone]):=Held.box hbA fun hF=>by have:=HST.out.disk.low nb hF;omega
   have HBA:=Lib.hid hboxA;clear hboxA;have HID:=Lib.hid hid;have HWA:=Lib.hid hwA;have HEA:=Lib.hid hEA;have HNB:=Lib.hid hnb;have Q1:=Lib.hid q1;have Q2:=Lib.hid q2;have Q3:=Lib.hid q3;have Q4:=Lib.hid q4;clear hid hwA hEA hbA q2 q3 q4 hnb;obtain⟨nA,hnA⟩:∃nA,wA.heap.size=nA:=⟨_,rfl⟩;go_wp2_with fail
   rw[HWA.out,HNB.out];refine HID.out.mono ?_;rintro e w2 ⟨y,rfl,hy1,hy2,hw2⟩;rw[hw2];clear hw2;go_wp2;go_loopw [10,11] (fun bs i wq=>∃(j:Nat)(m:List UInt8),j<=s.recs.length/\i=.int .i64 j/\OwnB wq nA bs m/\m.length<=200*j/\Ext wA wq) (fun _ i _=>s.recs.length - (intOf i).toNat)
   case atStart=>exact⟨0,[],by omega,rfl,a4d _ _,by simp,Ext.refl _⟩
   case round=>
    obtain⟨j,m,hj,rfl,hown,hml,hEq⟩:=hrel;obtain⟨ma,mc,rfl⟩:=ownsRow_form hown;have q1:=hEq.cell Q1.out;have HOWN:=Lib.hid hown;have HEQ:=Lib.hid hEq;clear hown hEq;have hrl:=HSR.out.1;by_cases hjl:j<s.recs.length
    ·obtain⟨r,hr⟩:∃r,s.recs[j]?=some r:=⟨_,List.getElem?_eq_getElem hjl⟩;obtain⟨bb,rfl,r0,r1,r2,r3⟩:=(HREC.out.ext fun _ _=>b07.ext (HEA.out.trans HEQ.out)).at hr;have hrec:=b30 r.seq r.key r.val r.del wr;have HRC:=Lib.hid hrec;clear hrec hr;unfold c3j a7E at HRC;go_wp2_with fail
     refine HRC.out.mono ?_;rintro e w3 ⟨rfl,hE3⟩;have henc:=b4H r.seq r.key r.val r.del 0 (w3.alloc (.cells #[.int .u64 r.seq,.string r.key,.string r.val,.bool r.del,.int .i64 0] 116));have HEN:=Lib.hid henc;have HE3:=Lib.hid hE3;clear henc hE3;unfold a7E at HEN;go_wp2_with fail
     refine HEN.out.mono ?_;rintro e w4 ⟨x,n,m2,rfl,hE4,hO4,hl4⟩;have hE34:Ext wr w4:=(HE3.out.new _).trans hE4;by_cases hn:n=0
     ·subst hn;have hsz4:nA<=w4.heap.size:=by have:=HEQ.out.size;have:=hE34.size;omega
      obtain⟨xa,xc,rfl⟩:=ownsRow_form hO4;have hO:=ownsRow_below HOWN.out hE34;have hB4:=hO4.bytes;have HO:=Lib.hid hO;have HB4:=Lib.hid hB4;have HE4:=Lib.hid (HEQ.out.trans hE34);clear hO hB4 hE34 hE4 hO4 HOWN HEN HRC;go_wp2_with (at_builtin;go_must (refine H5 rfl _ _ 25 rfl nA 5 i0 (.int .u8 0) 1 1 Tryz.underlying25 hi hz0 hz1 hz2 rfl (by omega) (.slice ma m.length mc) m.length (m.map byteV) rfl HO.out (.slice xa m2.length xc) m2.length (m2.map byteV) rfl HB4.out (by simp) (a0O m2) (by unfold maxLen;omega) (by omega) hsz4 ?_);intro b5 c5 w5 hown5 hgrow5 hat5;clear hat5)
      have hO5:OwnB w5 nA (.slice b5 (m.length+m2.length) c5) (m++m2):=by
       unfold OwnB;rw[List.map_append,List.length_append];exact hown5
      have hE5:Ext wA w5:=Below.grown HE4.out hgrow5 (by omega) (fun r hr=>by have:=(HO.out.lt r hr);omega);have HO5:=Lib.hid hO5;have HE5:=Lib.hid hE5;clear hO5 hE5 hown5 hgrow5;go_roundw
      case rel=>exact⟨j+1,m++m2,by omega,by go_num,HO5.out,by rw[List.length_append];omega,HE5.out⟩
      case measure=>simp[intOf];omega
     ·have hnn:(n==0)=false:=beq_eq_false_iff_ne.2 hn;have hE4q:=HEQ.out.trans hE34;have hO:=ownsRow_below HOWN.out hE34;have HO:=Lib.hid hO;have HE4:=Lib.hid hE4q;clear hO hE4q hE34 hE4 hO4 hn HOWN;go_wp2;go_roundw
      case rel=>exact⟨j+1,m,by omega,by go_num,HO.out,by omega,HE4.out⟩
      case measure=>simp[intOf];omega
    ·obtain rfl:j=s.recs.length:=by omega
     have q2:=HEQ.out.cell Q2.out;have q4:=HEQ.out.cell Q4.out;have htb:=HTL.out.ext (HEA.out.trans HEQ.out);have hsz5:nA<=wr.heap.size:=by have:=HEQ.out.size;omega
     have HTB:=Lib.hid htb;clear htb;have hszE:=HEQ.out.size;go_wp2_with (at_builtin;go_must (refine H5 rfl _ _ 25 rfl nA 5 i0 (.int .u8 0) 1 1 Tryz.underlying25 hi hz0 hz1 hz2 rfl (by omega) (.slice ma m.length mc) m.length (m.map byteV) rfl HOWN.out (.slice ta s.tail.length tc) s.tail.length (s.tail.map byteV) rfl HTB.out (by simp) (a0O _) (by unfold maxLen;omega) (by omega) hsz5 ?_);intro b5 c5 w5 hown5 hgrow5 hat5;clear hat5;have hE5:=Below.grown HEQ.out hgrow5 hszE (fun r hr=>by have:=(HOWN.out.lt r hr);omega);have q5:=Ext.cell hE5 Q4.out;have HE5:=Lib.hid hE5;clear hE5)
     have hnm:=a3S J8 y w5 (by simp[J8]) hy2;have HNM:=Lib.hid hnm;clear hnm;have hO5:OwnB w5 nA (.slice b5 (m.length+s.tail.length) c5) (m++s.tail):=by
      unfold OwnB;rw[List.map_append,List.length_append];exact hown5
     have HO5:=Lib.hid hO5;clear hO5 hown5 hgrow5 q5 q4 q2 q1 s0 s3 s4;unfold strV J8 at HNM;go_wp2_with fail
     refine HNM.out.mono ?_;rintro e w6 ⟨rfl,hE6⟩;have hst6:LSt w0 a k F E w6:=HST.out.to ((HEA.out.trans HE5.out).trans hE6);have hF6:∀b,F b->b<nA:=fun b hb=>by have:=HST.out.disk.low b hb;have:=HEA.out.size;omega
     have hO6:OwnB w6 nA (.slice b5 (m.length+s.tail.length) c5) (m++s.tail):=ownsRow_below HO5.out hE6;have hby:Held w6 F (fun W=>Bytes W (.slice b5 (m.length+s.tail.length) c5) (m++s.tail)):=(Held.ownB hO6 fun b hb hF=>by have:=(hO6.lt b hb).1;have:=hF6 b hF;omega).mono fun W hW=>OwnB.bytes hW;have hfile:=a5r F a E k (G5 J8 y) _ (m++s.tail) w6 hst6.disk hst6.built (by omega) (by rw[a5q];simp[J8]) hby (by rw[List.length_append];omega) (Held.laid HL0.out hst6.ext hst6.low);have HFL:=Lib.hid hfile;have HST6:=Lib.hid hst6;have HE6:=Lib.hid hE6;clear hfile hst6 hby hO6 hF6 hE6;unfold y8 strV at HFL;go_wp2_with fail
     refine HFL.out.mono ?_;rintro e w7 hfl;obtain rfl:=hfl.1;obtain⟨F7,E7,hst7,hC7⟩:=HST6.out.file hfl;have HST7:=Lib.hid hst7;have HI7:=Lib.hid ((HI.out.to ((HEA.out.trans HE5.out).trans HE6.out)).step hC7);have HB7:=Lib.hid ((HBA.out.ext (Ext.trans HE5.out HE6.out)).step hC7);clear hst7 hC7 hfl;go_wp2_with fail
     rotate_left
     have hx:∃F7 E7,LSt w0 a (k+1) F7 E7 w5/\a3D n0 F7 (.slice ia l.length ic) l w5/\Held w5 F7 (fun W=>o7 W nb 94 #[.int .i64 s.id,.slice ra s.recs.length rc,.slice ta s.tail.length tc,.bool s.listed,.bool s.gone]):=
      ⟨F,E,⟨HST.out.disk.ext (HEA.out.trans HE5.out),HST.out.built.more (by omega),HST.out.ext.trans (HEA.out.trans HE5.out),HST.out.low⟩,HI.out.to (HEA.out.trans HE5.out),HBA.out.ext HE5.out⟩
     obtain⟨F7,E7,hst7,hi7,hb7⟩:=hx;have HST7:=Lib.hid hst7;have HI7:=Lib.hid hi7;have HB7:=Lib.hid hb7;clear hst7 hi7 hb7 hown5 hgrow5 q5 q4 q2 q1 s0 s3 s4;all_goals
      rename World=>wz
      have hin:=c3l (.slice ia l.length ic) l (y:Int) wz HI7.out.own.ints;have q3:=(HB7.out.get.cell 3).trans (show _=some (Value.bool s.listed) from rfl);have HIN:=Lib.hid hin;clear hin;refine HIN.out.mono ?_;rintro e w8 ⟨rfl,hw8⟩;rw[hw8];clear hw8 w8 HIN
      cases hsl:s.listed with
      | false=>
       rw[hsl] at q3;go_wp2;go_roundw
       case rel=>exact⟨k+1,F7,E7,l,by omega,by go_num,HST7.out,by omega,HI7.out⟩
       case measure=>simp[intOf];omega
      | true=>
       rw[hsl] at q3
       cases hyl:decide ((y:Int)∈l) with
       | true=>
        go_wp2;go_roundw
        case rel=>exact⟨k+1,F7,E7,l,by omega,by go_num,HST7.out,by omega,HI7.out⟩
        case measure=>simp[intOf];omega
       | false=>
        have hszz:n0<=wz.heap.size:=by have:=HST7.out.ext.size;omega
        have hsz0:wz.heap.size<=(wz.alloc (.cells #[.int .i64 y] 3)).heap.size:=by simp
        go_wp2_with (at_builtin;go_must (refine H5 rfl _ _ 69 rfl n0 3 ii (.int .i64 0) 1 8 Tryz.underlying69 hii hi0 hi1 hi2 rfl (by omega) (.slice ia l.length ic) l.length _ rfl (World.ownsRow.alloc HI7.out.own (.cells #[.int .i64 y] 3)) (.slice (some ⟨wz.heap.size,0,none⟩) 1 1) 1 [.int .i64 y] rfl (a6A wz _ _) rfl (by simp[Value.oneCell']) (by unfold maxLen;omega) (by omega) (by omega) ?_);intro b9 c9 w9 hown9 hgrow9 hat9)
        have hO9:OwnI w9 n0 (.slice b9 (l.length+1) c9) (l++[(y:Int)]):=by
         unfold OwnI;rw[List.map_append,List.length_append];exact hown9
        have hEz:Ext w0 (wz.alloc (.cells #[.int .i64 y] 3)):=HST7.out.ext.new _;have hE9:Ext w0 w9:=Below.grown hEz hgrow9 (by have:=hEz.size;omega) (fun r hr=>by have:=(World.ownsRow.lt HI7.out.own r hr).1;omega);have hD9:A8 w9 F7 a E7:=HST7.out.disk.frame (fun b hb=>by
         have hlt:=HST7.out.disk.low b hb;refine(hgrow9.block b (by simp;omega) (fun e=>HI7.out.off b e.symm hb)).trans ?_;exact heap_alloc_old _ _ hlt) (by have:=hgrow9.size;omega)
        have hI9:a3D n0 F7 (.slice b9 (l.length+1) c9) (l++[(y:Int)]) w9:=⟨hO9,fun b hb hF=>by
         rcases hat9 with h|h
         ·exact HI7.out.off b (h.symm.trans hb) hF
         ·have:=HST7.out.disk.low b hF;rw[h] at hb;injection hb with hb;simp at hb;omega⟩
        have HST9:=Lib.hid (⟨hD9,HST7.out.built,hE9,HST7.out.low⟩:LSt w0 a (k+1) F7 E7 w9);have HI9:=Lib.hid hI9;clear hO9 hEz hE9 hD9 hI9 hown9 hgrow9 hat9;go_roundw
        case rel=>exact⟨k+1,F7,E7,l++[(y:Int)],by omega,by go_num,HST9.out,by simp;omega,HI9.out⟩
        case measure=>simp[intOf];omega
  ·obtain rfl:k=d.segs.length:=by omega
   have b2:=HST.out.ext.cell B2.out;have hwm:=a7F d.gen (.slice ia l.length ic) l wr HI.out.own.ints;have HWM:=Lib.hid hwm;clear hwm;obtain⟨nB,hnB⟩:∃nB,wr.heap.size=nB:=⟨_,rfl⟩;go_wp2_with fail
   refine HWM.out.mono ?_;rintro e w2 ⟨x,rfl,hE2,hcase⟩;obtain⟨ml,hml,hox⟩:∃ml:List UInt8,ml.length<=300/\OwnB w2 nB x ml:=by
    rcases hcase with⟨hok,hO⟩|⟨-,rfl⟩
    ·have h60:l.length<=60:=by unfold a0b at hok;simp only[Bool.and_eq_true,decide_eq_true_eq] at hok;exact hok.1
     exact⟨_,by unfold summed a1m;simp[I4,a2a];omega,hnB▸hO⟩
    ·exact⟨[],by simp,a4d _ _⟩
   obtain⟨xa,xc,rfl⟩:=ownsRow_form hox;have hst2:=HST.out.to hE2;have b3:=hst2.ext.cell B3.out;have b4:=hst2.ext.cell B4.out;have hsz2:nB<=w2.heap.size:=by have:=hE2.size;omega
   have hsp:=HS.out.spoilt;have HOX:=Lib.hid hox;have HST2:=Lib.hid hst2;have HSB:=Lib.hid (H3.out.ext hst2.ext);have HE2:=Lib.hid hE2;obtain⟨z,hz⟩:∃z,(if a0b l=true then(0:Int) else 4)=z:=⟨_,rfl⟩;rw[hz];clear hox hst2 hcase hE2 hz b0 b2;go_upto_region 24 with fail
   go_cut [103] (fun c wx=>wx=w2/\c=.bool (decide (0<d.spoilt.length)&&!d.whole))
   case first=>
    by_cases hs0:0<d.spoilt.length
    ·have he:(decide (0<d.spoilt.length)&&!d.whole) = !d.whole:=by rw[decide_eq_true hs0];rfl
     go_wp2_with fail
     go_meet
     exact⟨rfl,by rw[he]⟩
    ·have he:(decide (0<d.spoilt.length)&&!d.whole)=false:=by rw[decide_eq_false hs0];rfl
     go_wp2_with fail
     go_meet
     exact⟨rfl,by rw[he]⟩
   case rest=>
    obtain⟨hwc,rfl⟩:=hcut;subst hwc;generalize (decide (0<d.spoilt.length)&&!d.whole)=cc;go_upto_if 103 with fail
    go_cut [17] (fun v wx=>wx=wc/\∃l':List UInt8,l'.length<=300/\OwnB wx nB v l')
    case first=>
     cases cc
     ·go_wp2_with fail
      go_meet
      exact⟨rfl,ml,hml,HOX.out⟩
     ·go_wp2_with fail
      go_meet
      exact⟨rfl,[],by simp,a4d _ _⟩
    case rest=>
     obtain⟨hwc,ml2,hml2,hox2⟩:=hcut;obtain⟨xa2,xc2,rfl⟩:=ownsRow_form hox2;subst hwc;have HOX2:=Lib.hid hox2;clear hox2 HOX;go_upto_if 110 with(at_builtin;go_must (refine H5 rfl _ _ 25 rfl nB 5 i0 (.int .u8 0) 1 1 Tryz.underlying25 hi hz0 hz1 hz2 rfl (by omega) (.slice xa2 ml2.length xc2) ml2.length (ml2.map byteV) rfl HOX2.out (.slice a3 d.spoilt.length c3) d.spoilt.length (d.spoilt.map byteV) rfl HSB.out (by simp) (a0O _) (by unfold maxLen;omega) (by omega) hsz2 ?_);intro b10 c10 w10 hown10 hgrow10 hat10;clear hat10;obtain⟨u10,hu10⟩:∃u,Value.slice b10 (ml2.length+d.spoilt.length) c10=u:=⟨_,rfl⟩;rw[hu10] at hown10⊢;obtain⟨lst,hl10,hO10⟩:∃lst:List UInt8,lst.length<=41000/\OwnB w10 nB u10 lst:=⟨ml2++d.spoilt,by rw[List.length_append];omega,by unfold OwnB;rw[List.map_append,List.length_append];exact hown10⟩;have hst10:=HST.out.to (Below.grown HE2.out hgrow10 HE2.out.size (fun r hr=>by have:=(HOX2.out.lt r hr);omega));have b5:=hst10.ext.cell B5.out;have HO10:=Lib.hid hO10;have HST10:=Lib.hid hst10;clear hO10 hst10 hown10 hgrow10 hu10)
     go_cut [5] (fun v wx=>v=.pointer (some ⟨a,0,none⟩)/\∃F7 E7,LSt w0 a 61 F7 E7 wx)
     case first=>
      have hby:Held w10 F (fun W=>Bytes W u10 lst):=(Held.ownB HO10.out fun b hb hF=>by have:=(HO10.out.lt b hb).1;have:=HST.out.disk.low b hF;omega).mono fun W hW=>OwnB.bytes hW;have hfile:=a5r F a E d.segs.length H9 u10 lst w10 HST10.out.disk HST10.out.built (by omega) (by simp[H9]) hby (by omega) (Held.laid HL0.out HST10.out.ext HST10.out.low);unfold y8 strV H9 at hfile;have HFILE:=Lib.hid hfile;clear hfile hby;go_wp2_with fail
      all_goals
       first
       | (refine HFILE.out.mono ?_
          rintro e wz hfl;obtain rfl:=hfl.1;obtain⟨F7,E7,hst7,-⟩:=HST10.out.file hfl;have HST7:=Lib.hid (hst7.more (m:=61) (by omega));clear hst7 hfl;go_wp2_with fail
          go_meet
          exact⟨rfl,F7,E7,HST7.out⟩)
       | (go_meet
          exact⟨rfl,F,E,HST10.out.more (by omega)⟩)
     case rest=>
      obtain⟨rfl,F7,E7,hst7⟩:=hcut;have HST7:=Lib.hid hst7;clear b5 b4 b3 hst7 HO10 HST10 HSB HOX2 HI HST HE2 HWM;go_wp2_with fail
      go_loopw [19] (fun i wq=>∃(k2:Nat)(F:Nat->Prop)(E:D),k2<=d.others.length/\i=.int .i64 k2/\LSt w0 a (61+k2) F E wq) (fun i _=>d.others.length - (intOf i).toNat)
      case atStart=>exact⟨0,F7,E7,by omega,rfl,HST7.out⟩
      case round=>
       obtain⟨k2,F,E,hk2,rfl,hST⟩:=hrel;have b1:=hST.ext.cell B1.out;have HST:=Lib.hid hST;clear hST;have hot:=HS.out.others;by_cases hlt2:k2<d.others.length
       ·obtain⟨s,hs⟩:∃s,d.others[k2]?=some s:=⟨_,List.getElem?_eq_getElem hlt2⟩;obtain⟨hn1,hn2⟩:=HS.out.other s (List.mem_of_getElem? hs);obtain⟨b,rfl,u2,s0,s1,s2,hby⟩:=H1.out.at hs;replace s0:=HST.out.ext.cell s0;replace s1:=HST.out.ext.cell s1;replace s2:=HST.out.ext.cell s2;obtain⟨ba,bc,rfl,hbc,hbc',-⟩:=hby.open;have hbh:Held w0 (fun _=>False) (fun W=>Bytes W (.slice ba s.bytes.length bc) s.bytes):=Held.bytes hby (fun _ _ _ _ h=>h);have HBH:=Lib.hid hbh;clear hbh hby hs;by_cases hh:0<s.hint
        ·have hid:=b89 s.hint wr;have HID:=Lib.hid hid;clear hid;go_wp2_with fail
         refine HID.out.mono ?_;rintro e w2 ⟨y,rfl,hy1,hy2,hw2⟩;rw[hw2];clear hw2 w2;have hnm:=a3S a8c y wr (by simp[a8c]) hy2;have HNM:=Lib.hid hnm;clear hnm;unfold strV a8c at HNM;go_wp2_with fail
         refine HNM.out.mono ?_;rintro e w6 ⟨rfl,hE6⟩;have hst6:=HST.out.to hE6;have d1:=hE6.cell b1;have t2:=hE6.cell s2;have hfile:=a5r F a E (61+k2) (G5 a8c y) _ s.bytes w6 hst6.disk hst6.built (by omega) (by rw[a5q];simp[a8c]) (HBH.out.lift hst6.ext hst6.low) (by omega) (Held.laid HL0.out hst6.ext hst6.low);have HFL:=Lib.hid hfile;have HST6:=Lib.hid hst6;clear hfile hst6 hE6 b1 s0 s1 s2;unfold y8 strV a8c at HFL;go_wp2_with fail
         refine HFL.out.mono ?_;rintro e w7 hfl;obtain rfl:=hfl.1;obtain⟨F8,E8,hst8,-⟩:=HST6.out.file hfl;have HST8:=Lib.hid hst8;clear hst8 hfl;go_wp2_with fail
         go_roundw
         case rel=>exact⟨k2+1,F8,E8,by omega,by go_num,HST8.out⟩
         case measure=>simp[intOf];omega
        ·have hfile:=a5r F a E (61+k2) s.name.data.toList _ s.bytes wr HST.out.disk HST.out.built (by omega) (by have:=J3 s.name;omega) (HBH.out.lift HST.out.ext HST.out.low) (by omega) (Held.laid HL0.out HST.out.ext HST.out.low);rw[b6P] at hfile;have HFL:=Lib.hid hfile;clear hfile;unfold y8 at HFL;go_wp2_with fail
         refine HFL.out.mono ?_;rintro e w7 hfl;obtain rfl:=hfl.1;obtain⟨F8,E8,hst8,-⟩:=HST.out.file hfl;have HST8:=Lib.hid hst8;clear hst8 hfl;go_wp2_with fail
         go_roundw
         case rel=>exact⟨k2+1,F8,E8,by omega,by go_num,HST8.out⟩
         case measure=>simp[intOf];omega
       ·obtain rfl:k2=d.others.length:=by omega
        have hsy:=b2q F a E wr HST.out.disk (by have:=HST.out.built.mlen;omega) (fun l hl=>⟨(HST.out.built.mnames l hl).1,fun m hm=>by have:=(HST.out.built.mnames l hl).2 m hm;unfold maxLen;omega⟩);obtain⟨E',hE',hsafe,hnow,hids,hnode⟩:=HST.out.built.syncDir;rw[hE'] at hsy;have HSY:=Lib.hid hsy;clear hsy;unfold y8 at HSY;go_wp2_with fail
        refine HSY.out.mono ?_;rintro e w7 ⟨F8,v8,rfl,-,hD8,hC8,-⟩;have hfin:b5x w (.returned (y8 a)) w7:=by
         refine⟨a,F8,E',rfl,hD8,hsafe,fun x hx=>?_,?_,fun p hp=>?_,?_,fun b hb=>?_⟩
         ·rw[hnode];rw[hids] at hx;exact HST.out.built.bound x hx
         ·rw[hnow];have:=HST.out.built.len;omega
         ·rw[hnow] at hp;exact HST.out.built.names p hp
         ·exact HEW.out.trans (HST.out.ext.trans' (hC8.below HST.out.low HST.out.ext.size))
         ·have h1:=HEW.out.size;have h2:=HST.out.ext.size;rcases hC8.grow b hb with h|h
          ·have:=HST.out.low b h;omega
          ·omega
        have HFN:=Lib.hid hfin;clear hfin hD8 hC8;unfold y8 at HFN;go_wp2;go_ret;exact HFN.out
end
section
open Go.RowKit Go.Lib Go.Maps Dk Pl
def b0w(n:Int)(s:Sg):Prop:=(s.tail.length:Int)<=n/\20*(s.recs.length:Int)<=n/\∀r∈s.recs,(r.key.size:Int)<=n/\(r.val.size:Int)<=n
def b0x(n:Int)(s:Sg)(j:Nat):Prop:=(s.tail.length:Int)<=n/\20*(j:Int)<=n/\∀r∈s.recs.take j,(r.key.size:Int)<=n/\(r.val.size:Int)<=n
def b5R(n:Int)(s:Ot):Prop:=(s.name.size:Int)<=n/\(s.bytes.length:Int)<=n
theorem b0w.mono{n m:Int}{s:Sg}(h:b0w n s)(k:n<=m):b0w m s:=
 ⟨by have:=h.1;omega,by have:=h.2.1;omega,fun r hr=>by have:=h.2.2 r hr;omega⟩
theorem b0x.step{n m:Int}{s:Sg}{j:Nat}{r:Rc}(h:b0x n s j)(hr:s.recs[j]?=some r)(hm:m=n+20+r.key.size+r.val.size)(hn:0<=n):b0x m s (j+1):=by
 refine⟨by have:=h.1;omega,by have:=h.2.1;omega,fun x hx=>?_⟩;rw[List.take_add_one,hr] at hx;rcases List.mem_append.1 hx with hx|hx
 ·have:=h.2.2 x hx;omega
 ·simp at hx;subst hx;omega
theorem b0x.all{n:Int}{s:Sg}(h:b0x n s s.recs.length):b0w n s:=⟨h.1,h.2.1,fun r hr=>h.2.2 r (by rw[List.take_length];exact hr)⟩
theorem b0y{α:Type}{p:α->Prop}{l:List α}{i:Nat}{x:α}(h:∀s∈l.take i,p s)(hx:l[i]?=some x)(hp:p x):∀s∈l.take (i+1),p s:=by
 intro s hs;rw[List.take_add_one,hx] at hs;rcases List.mem_append.1 hs with hs|hs
 ·exact h s hs
 ·simp at hs;subst hs;exact hp
def a1N(d:Dr)(w:World)(e:Ending)(w':World):Prop:=∃b:Bool,e=.returned (.bool b)/\(b=true->d.Small)/\Ext w w'
theorem a1N.no{d:Dr}{w w':World}(h:Ext w w'):a1N d w (.returned (.bool false)) w':=⟨false,rfl,⟨fun h=>(by cases h),h⟩⟩
theorem b7w(v:Value)(d:Dr)(w:World)(h:b09 w v d)(hf:d.Fits 281474976710656):
 Calls Tryz.prog 12 #[v] w (a1N d w):=by
 obtain⟨v0,v1,v3,rfl,h0,h1,h3⟩:=h;obtain⟨a0,c0,rfl,hl0,hm0⟩:=h0.form;obtain⟨a1,c1,rfl,hl1,hm1⟩:=h1.form;obtain⟨a3,c3,rfl,hl3,hm3,-⟩:=h3.open;have hE0:∀o,Ext w (w.alloc o):=fun o=>(Ext.refl w).new o;have H0:=Lib.hid h0;have H1:=Lib.hid h1;have HF:=Lib.hid hf;have HE0:=Lib.hid hE0;clear h0 h1 h3 hf hE0;by_cases k0:60<d.segs.length
 ·go_enter Tryz.func12,Tryz.ntmps12
  go_wp2;go_ret;exact a1N.no (HE0.out _)
 by_cases k1:300<d.others.length
 ·go_enter Tryz.func12,Tryz.ntmps12
  go_wp2;go_ret;exact a1N.no (HE0.out _)
 by_cases k2:40000<d.spoilt.length
 ·go_enter Tryz.func12,Tryz.ntmps12
  go_wp2;go_ret;exact a1N.no (HE0.out _)
 obtain⟨w0,hw0⟩:∃w0,w.alloc (.cells #[.slice a0 d.segs.length c0,.slice a1 d.others.length c1,.int .u64 d.gen,.slice a3 d.spoilt.length c3,.bool d.whole,.bool d.without] 27)=w0:=⟨_,rfl⟩;have hb0:o7 w0 w.heap.size 27 #[.slice a0 d.segs.length c0,.slice a1 d.others.length c1,.int .u64 d.gen,.slice a3 d.spoilt.length c3,.bool d.whole,.bool d.without]:=hw0▸o7.new _ _ rfl;have hEw:Ext w w0:=hw0▸HE0.out _;have b0:=(hb0.cell 0).trans (show _=some (Value.slice a0 d.segs.length c0) from rfl);have b1:=(hb0.cell 1).trans (show _=some (Value.slice a1 d.others.length c1) from rfl);have HEW:=Lib.hid hEw;have HW0:=Lib.hid hw0;clear hEw HE0 hw0 hb0;have HB0:=Lib.hid b0;have HB1:=Lib.hid b1;go_enter Tryz.func12,Tryz.ntmps12
 go_wp2;rw[HW0.out];go_loopw [3,4] (fun n i wr=>∃(k:Nat)(z:Int),k<=d.segs.length/\i=.int .i64 k/\n=.int .i64 z/\0<=z/\z<=40000+k*281474976710656/\(∀s∈d.segs.take k,b0w z s)/\Ext w0 wr) (fun _ i _=>d.segs.length - (intOf i).toNat)
 case atStart=>exact⟨0,0,by omega,rfl,rfl,by omega,by omega,by simp,Ext.refl w0⟩
 case round=>
  obtain⟨k,z,hk,rfl,rfl,hz0,hz1,hseg,hE⟩:=hrel;have e0:=hE.cell b0;have e1:=hE.cell b1;have hEw:=HEW.out.trans hE;clear b0 b1;have HSEG:=Lib.hid hseg;have HE:=Lib.hid hE;have HEWR:=Lib.hid hEw;clear hseg hE hEw;by_cases hlt:k<d.segs.length
  ·obtain⟨s,hs⟩:∃s,d.segs[k]?=some s:=⟨_,List.getElem?_eq_getElem hlt⟩;have hsm:=List.mem_of_getElem? hs;have hft:=HF.out.tail s hsm;have hfr:=HF.out.recs s hsm;obtain⟨b,rfl,u1,u2,-,s1,s2,-,-,hrec,htail⟩:=(H0.out.ext fun _ _=>a9j.ext HEWR.out).at hs;obtain⟨ra,rc,rfl,hrc,hrc'⟩:=hrec.form;obtain⟨ta,tc,rfl,htc,htc',-⟩:=htail.open;have HREC:=Lib.hid hrec;have HS1:=Lib.hid s1;have HS:=Lib.hid hs;have HFR:=Lib.hid hfr;clear hrec htail hs hsm hfr;go_wp2;go_loopw [3,5] (fun n i wq=>∃(j:Nat)(y:Int),j<=s.recs.length/\i=.int .i64 j/\n=.int .i64 y/\z<=y/\(y<=40000\/y<=z+281474976710656)/\b0x y s j/\Ext wr wq) (fun _ i _=>s.recs.length - (intOf i).toNat)
   case atStart=>exact⟨0,z+s.tail.length,by omega,rfl,by go_num,by omega,by omega,⟨by omega,by omega,by simp⟩,Ext.refl _⟩
   case round=>
    obtain⟨j,y,hj,rfl,rfl,hy0,hy1,hto,hEq⟩:=hrel;have d0:=hEq.cell e0;have d1:=hEq.cell e1;have t1:=hEq.cell s1;have hEw:=HEWR.out.trans hEq;clear e0 e1 s1 s2;have HTO:=Lib.hid hto;have HEQ:=Lib.hid hEq;have HEWQ:=Lib.hid hEw;clear hto hEq hEw;by_cases hjl:j<s.recs.length
    ·obtain⟨r,hr⟩:∃r,s.recs[j]?=some r:=⟨_,List.getElem?_eq_getElem hjl⟩;obtain⟨hk1,hv1⟩:=HFR.out r (List.mem_of_getElem? hr);obtain⟨bb,rfl,-,r1,r2,-⟩:=(HREC.out.ext fun _ _=>b07.ext HEQ.out).at hr;have HR:=Lib.hid hr;clear hr;obtain⟨y2,hy2⟩:∃y2,y+20+r.key.size+r.val.size=y2:=⟨_,rfl⟩;have hst:=HTO.out.step HR.out hy2.symm (by omega);have HST:=Lib.hid hst;clear hst;go_wp2_with fail
     go_quiet (fail)
     by_cases hbig:40000<y2
     ·go_wp2;go_ret;exact a1N.no (HEWQ.out.trans (Ext.drewN _ nq))
     ·go_wp2;go_roundw
      case rel=>exact⟨j+1,y2,by omega,by go_num,by go_num,by omega,by omega,HST.out,HEQ.out.trans (Ext.drewN _ nq)⟩
      case measure=>simp[intOf];omega
    ·obtain rfl:j=s.recs.length:=by omega
     have hall:=b0y (fun s hs=>(HSEG.out s hs).mono hy0) HS.out HTO.out.all;have HALL:=Lib.hid hall;clear hall;go_wp2;go_roundw
     case rel=>exact⟨k+1,y,by omega,by go_num,rfl,by omega,by omega,HALL.out,HE.out.trans HEQ.out⟩
     case measure=>simp[intOf];omega
  ·obtain rfl:k=d.segs.length:=by omega
   have hsegs:∀s∈d.segs,b0w z s:=by have:=HSEG.out;rwa [List.take_length] at this
   have HSG:=Lib.hid hsegs;clear hsegs;go_wp2;go_loopw [3,6] (fun n i wq=>∃(k:Nat)(y:Int),k<=d.others.length/\i=.int .i64 k/\n=.int .i64 y/\z<=y/\(y<=40000\/y=z)/\(∀s∈d.others.take k,b5R y s)/\Ext wr wq) (fun _ i _=>d.others.length - (intOf i).toNat)
   case atStart=>exact⟨0,z,by omega,rfl,rfl,by omega,by omega,by simp,Ext.refl _⟩
   case round=>
    obtain⟨k,y,hk,rfl,rfl,hy0,hy1,hoth,hEq⟩:=hrel;have d1:=hEq.cell e1;have hEw:=HEWR.out.trans hEq;clear e0 e1;have HOT:=Lib.hid hoth;have HEQ:=Lib.hid hEq;have HEWQ:=Lib.hid hEw;clear hoth hEq hEw;by_cases hlt:k<d.others.length
    ·obtain⟨s,hs⟩:∃s,d.others[k]?=some s:=⟨_,List.getElem?_eq_getElem hlt⟩;have hsm:=List.mem_of_getElem? hs;obtain⟨hf1,hf2⟩:=HF.out.other s hsm;obtain⟨b,rfl,u2,o0,-,o2,hby⟩:=(H1.out.ext fun _ _=>b08.ext HEWQ.out).at hs;obtain⟨ta,tc,rfl,htc,htc',-⟩:=hby.open;obtain⟨y2,hy2⟩:∃y2,y+s.bytes.length+s.name.size=y2:=⟨_,rfl⟩;have hst:=b0y (p:=b5R y2) (fun s hs=>⟨by have:=(HOT.out s hs).1;omega,by have:=(HOT.out s hs).2;omega⟩) hs ⟨by omega,by omega⟩;have HST:=Lib.hid hst;clear hst hs hsm hby;go_wp2_with fail
     go_quiet (fail)
     by_cases hbig:40000<y2
     ·go_wp2;go_ret;exact a1N.no (HEWQ.out.trans (Ext.drewN _ nq))
     ·go_wp2;go_roundw
      case rel=>exact⟨k+1,y2,by omega,by go_num,by go_num,by omega,by omega,HST.out,HEQ.out.trans (Ext.drewN _ nq)⟩
      case measure=>simp[intOf];omega
    ·obtain rfl:k=d.others.length:=by omega
     have hother:∀s∈d.others,b5R y s:=by have:=HOT.out;rwa [List.take_length] at this
     have hfin:a1N d w (.returned (.bool (decide (y<=40000)))) wr:=by
      refine⟨_,rfl,fun h=>?_,HEWQ.out⟩;have hyl:=of_decide_eq_true h;refine⟨by omega,by omega,by omega,fun s hs=>?_,fun s hs=>?_,fun s hs=>?_⟩
      ·have:=(HSG.out s hs).1;omega
      ·have h1:=HSG.out s hs;refine⟨by have:=h1.2.1;omega,fun r hr=>?_⟩;have:=h1.2.2 r hr;omega
      ·have:=hother s hs;unfold b5R at this;omega
     have HFN:=Lib.hid hfin;clear hfin hother;go_wp2;go_ret;exact HFN.out
end
section
open Go.RowKit Go.Lib Go.Maps Dk
namespace Dk
structure D.Fit(d:D):Prop where
 data:∀x∈d.ids,(d.node x).data.length<=1099511627776
 len:d.now.length<=400
 names:∀p∈d.now,p.1.length<=1000000
theorem b8D(l:List (Nm×Nat))(ns:List Nm):(D5 l (ns.map fun n=>(n,none))).length<=l.length:=by
 induction ns generalizing l with
 | nil=>exact Nat.le_refl _
 | cons n ns ih=>exact Nat.le_trans (ih (a3k l n)) (List.length_filter_le _ _)
theorem D.Fit.sweep{d:D}(h:d.Fit)(hs:d.Safe)(ids:List Int):(d.sweep ids).2.Fit:=by
 obtain⟨e,he,-,-,hids,-,hnode⟩:=hs.sweep ids;have hnow:(d.sweep ids).2.now=D5 d.now (((d.list.take d.list.length).filter fun n=>!a2K ids n).map fun n=>(n,none)):=by
  have hsw:=hs.calm.sw hs.nodup ids d.list.length;rw[b6H hs.calm hs.nodup ids,hsw.calm.syncDir];exact hsw.now
 refine⟨fun x hx=>?_,?_,fun p hp=>?_⟩
 ·rw[he] at hx⊢;dsimp only at hx⊢;rw[hids] at hx;rw[hnode];exact h.data x hx
 ·rw[hnow];exact Nat.le_trans (b8D _ _) h.len
 ·rw[hnow] at hp;rcases a0Y hp with hp|⟨x,hx,e⟩
  ·exact h.names p hp
  ·obtain⟨n,-,rfl⟩:=List.mem_map.1 hx;cases e
theorem D.Safe.stepped{d:D}(h:d.Safe)(dir:Nat):d.stepped dir=d.safe:=by unfold D.stepped;rw[h.moves];simp
end Dk
end
section
open Go.RowKit Go.Lib Go.Maps Dk Pl
end
section
open Go.RowKit Go.Lib Go.Maps Dk Pl
theorem a2M.cap{w:World}{e:TypeId}{size:Nat}{v:Value}{n:Nat}{xs:List Value}(h:a2M w e size v n xs):n<=maxLen:=by
 rcases h.2 with⟨_,h0⟩|⟨g,cap,cur,fr,_,_,h1,h2,_⟩
 ·omega
 ·omega
def b1A(segs:List (List (Nat×Rec)))(i k:Nat)(key:Nm)(j m:Nat):Prop:=∀(j' m':Nat)(q:Nat×Rec),(segs.getD j' [])[m']?=some q->(i<j'\/(j'=i/\k<m'))->(j'<j\/(j'=j/\m'<m))->q.2.key≠key
theorem b1A.seg{segs:List (List (Nat×Rec))}{i k:Nat}{key:Nm}{j:Nat}(h:b1A segs i k key j (segs.getD j []).length):b1A segs i k key (j+1) 0:=by
 intro j' m' q h1 h2 h3;have hm:=(List.getElem?_eq_some_iff.1 h1).1;refine h j' m' q h1 h2 ?_;by_cases e:j'=j
 ·subst e;exact .inr ⟨rfl,hm⟩
 ·omega
end
section
open Go.RowKit Go.Lib Go.Maps Dk Pl
end
section
open Go.RowKit Go.Lib Go.Maps Dk Pl
end
section
open Go.RowKit Go.Lib Go.Maps Dk Pl
theorem b8G{d:D}(hw:d.Wf){c:Nat}(hds:∀x∈d.ids,(d.node x).data.length<=c):∀p∈d.files,p.2.length<=c:=by
 intro p hp;unfold D.files at hp;obtain⟨n,hn,rfl⟩:=List.mem_map.1 hp;obtain⟨b,hb⟩:=a8k d n hn;rw[hb];exact b5s hw hds hb
structure Kp(ch:Nat->Bool)(T T':Array Value):Prop where
 size:T'.size=T.size
 keep:∀k,ch k=false->T'[k]?=T[k]?
theorem Kp.refl(ch:Nat->Bool)(T:Array Value):Kp ch T T:=⟨rfl,fun _ _=>rfl⟩
theorem Kp.set{ch:Nat->Bool}{T T':Array Value}(h:Kp ch T T'){i:Nat}{v:Value}(hi:ch i=true):Kp ch T (T'.setIfInBounds i v):=
 ⟨by rw[Array.size_setIfInBounds,h.size],fun k hk=>by
  have:i≠k:=by rintro rfl;rw[hi] at hk;cases hk
  rw[Array.getElem?_setIfInBounds_ne this];exact h.keep k hk⟩
theorem slot{T:Array Value}{i:Nat}{v:Value}(h:T[i]?=some v):∃h:i<T.size,T[i]=v:=Array.getElem?_eq_some_iff.1 h
theorem a1a{T:Array Value}{i:Nat}{v:Value}(h:i<T.size):(T.setIfInBounds i v)[i]?=some v:=Array.getElem?_setIfInBounds_self_of_lt h
theorem a3e{T:Array Value}{i j:Nat}{u v:Value}(h:T[i]?=some v)(hij:j≠i):(T.setIfInBounds j u)[i]?=some v:=by rw[Array.getElem?_setIfInBounds_ne hij];exact h
section
variable{F:Nat->Prop}{a:Nat}{D:Dk.D}{w:World}{T:Array Value}
end
end
end Go.Proofs.YtgpbhjjajpbeeaaGreatDoor
namespace Go.To
section
open Go.Conc
open Zn (tp tp_self)
set_option linter.unusedSectionVars false
section
variable[Lo]{P:Program}{fn:FuncId}{Q:Exit->Act->World->(Nat->Prop)->Prop}{w:World}{Sh:Nat->Prop}{ops:Array Oper}{i n d:Nat}{rest:List Nat}{o:Oper}{v:Value}{T:Array Value}{ds:List Deferred}
theorem a6B(hd:o.dst=some d)(hs:T.size=n)(hdn:d<n):∃T',Act.put ⟨T,ds⟩ o.dst v=⟨T',ds⟩/\T'.size=n/\T'[d]?=some v/\∀k,k≠d->T'[k]?=T[k]?:=
 ⟨T.setIfInBounds d v,by rw[hd];rfl,by rw[Array.size_setIfInBounds,hs],Array.getElem?_setIfInBounds_self_of_lt (by omega),fun k hk=>Array.getElem?_setIfInBounds_ne (Ne.symm hk)⟩
theorem c0t(ho:ops[i]?=some o)(hd:o.dst=some d)(hw:Region.wanted o (yielded ops T)=true)(hs:T.size=n)(hdn:d<n)
 (hr:∀w,(execOp (Act.eval ⟨T,ds⟩) o).run P w=.ok (.value v) w/\(execOp (Act.eval ⟨T,ds⟩) o).events P w #[]=#[])
 (h:∀T',T'.size=n->T'[d]?=some v->(∀k,k≠d->T'[k]?=T[k]?)->a3I P fn ops rest Q ⟨T',ds⟩ w Sh):a3I P fn ops (i::rest) Q ⟨T,ds⟩ w Sh:=by
 obtain⟨T',e,a,b,c⟩:=a6B (ds:=ds) (v:=v) hd hs hdn;exact b4N ho hw (fun w=>(hr w).1) (fun w=>(hr w).2) (e▸h T' a b c)
theorem b7A{ad:Addr}(ho:ops[i]?=some o)(hd:o.dst=some d)(hw:Region.wanted o (yielded ops T)=true)(hs:T.size=n)(hdn:d<n)(hlo:ad.block<Lo.n)(hB:ad.block<w.heap.size)
 (hr:∀τ p,(execOp (Act.eval ⟨T,ds⟩) o).run P (tp w τ p)=.ok (.value v) (tp w τ p)/\(execOp (Act.eval ⟨T,ds⟩) o).events P (tp w τ p) #[]=#[⟨.cell ad,false,false⟩])
 (h:∀T',T'.size=n->T'[d]?=some v->(∀k,k≠d->T'[k]?=T[k]?)->a3I P fn ops rest Q ⟨T',ds⟩ w Sh):a3I P fn ops (i::rest) Q ⟨T,ds⟩ w Sh:=by
 obtain⟨T',e,a,b,c⟩:=a6B (ds:=ds) (v:=v) hd hs hdn;intro b' k cs Ψ hb hk hc;refine To.step rfl fun τ p=>⟨_,tp w τ p,_,stepG_value (a:=⟨T,ds⟩) ho hw (by rw[hk];simp) (hr τ p).1,Nat.le_refl _,fun ev he=>?_,To.to_tp (e▸h T' a b c b' k cs Ψ hb hk hc)⟩;have:=mem_seen he;rw[(hr τ p).2] at this;obtain rfl:ev=⟨.cell ad,false,false⟩:=by simpa using this
 exact evL_cell _ _ (fun hs=>by have:=hs.1;omega) hB
theorem b4O{f:FuncId}{args:Array Operand}{ats:Array TypeId}{Post:Value->World->(Nat->Prop)->Prop}(ho:ops[i]?=some o)(hd:o.dst=some d)(hw:Region.wanted o (yielded ops T)=true)(hop:o.op=.call {callee:=.value (.func f),args,argTypes:=ats})(hs:T.size=n)(hdn:d<n)
 (hcall:a8Q P f (args.map (Act.eval ⟨T,ds⟩)) w Sh Post)
 (h:∀v w' Sh' T',Post v w' Sh'->T'.size=n->T'[d]?=some v->(∀k,k≠d->T'[k]?=T[k]?)->a3I P fn ops rest Q ⟨T',ds⟩ w' Sh'):a3I P fn ops (i::rest) Q ⟨T,ds⟩ w Sh:=
 b7z ho hw hop hcall fun v w' Sh' hp=>by
  obtain⟨T',e,a,b,c⟩:=a6B (ds:=ds) (v:=v) hd hs hdn;exact e▸h v w' Sh' T' hp a b c
variable{Z:Zn.Zone}{X Y:Tmp->Prop}
theorem Iv.keep{T':Array Value}(hI:Iv Z Sh X ⟨T,ds⟩ w)(h:∀k,X k->T'[k]?=T[k]?\/∃v,T'[k]?=some v/\Zn.VP (Zn.Zf Z Sh w.heap.size) v):Iv Z Sh X ⟨T',ds⟩ w:=by
 refine⟨fun t ht=>?_,hI.defers,hI.W⟩;show Zn.VP _ (T'.getD t undef);rw[Array.getD_eq_getD_getElem?];rcases h t ht with h|⟨v,h,hv⟩
 ·rw[h,<-Array.getD_eq_getD_getElem?];exact hI.tmps t ht
 ·rw[h];exact hv
end
end
section
open Go.Conc
open Zn (tp tp_self)
set_option linter.unusedSectionVars false
def b3e(ops:Array Oper)(i d:Nat)(op:Op)(g:Option (Nat×Bool)):Prop:=(ops[i]?).map (fun o=>(o.dst,o.op,o.guard))=some (some d,op,g)
section
variable[Lo]{P:Program}{fn:FuncId}{Q:Exit->Act->World->(Nat->Prop)->Prop}{w:World}{Sh:Nat->Prop}{ops:Array Oper}{i n d:Nat}{rest:List Nat}{v:Value}{T:Array Value}{ds:List Deferred}{op:Op}{g:Option (Nat×Bool)}{ρ:Operand->Value}{x y:Operand}
omit[Lo] in
theorem b3e.of(h:(ops[i]?).map (fun o=>(o.dst,o.op,o.guard))=some (some d,op,g)):b3e ops i d op g:=h
omit[Lo] in
theorem b3e.get(h:b3e ops i d op g):∃o,ops[i]?=some o/\o.dst=some d/\o.op=op/\o.guard=g:=by
 unfold b3e at h;obtain⟨o,h1,h2⟩:=Option.map_eq_some_iff.1 h;injection h2 with h2 h3;injection h3 with h3 h4;exact⟨o,h1,h2,h3,h4⟩
def Wn(ops:Array Oper)(T:Array Value)(g:Option (Nat×Bool))(b:Bool):Prop:=∀o:Oper,o.guard=g->Region.wanted o (yielded ops T)=b
theorem wn0:Wn ops T none true:=fun o h=>by unfold Region.wanted;rw[h]
def Runs(P:Program)(ρ:Operand->Value)(op:Op)(v:Value):Prop:=∀o:Oper,o.op=op->∀w,(execOp ρ o).run P w=.ok (.value v) w/\(execOp ρ o).events P w #[]=#[]
theorem G8(h:b3e ops i d op g)(hw:Wn ops T g true)(hs:T.size=n)(hdn:d<n)(hr:Runs P (Act.eval ⟨T,ds⟩) op v)
 (k:∀T',T'.size=n->T'[d]?=some v->(∀k,k≠d->T'[k]?=T[k]?)->a3I P fn ops rest Q ⟨T',ds⟩ w Sh):a3I P fn ops (i::rest) Q ⟨T,ds⟩ w Sh:=by
 obtain⟨o,h1,h2,h3,h4⟩:=h.get;exact c0t h1 h2 (hw o h4) hs hdn (hr o h3) k
theorem b7B{ad:Addr}{t:TypeId}(h:b3e ops i d (.load t x) none)(hs:T.size=n)(hdn:d<n)(hx:Act.eval ⟨T,ds⟩ x=.pointer (some ad))(hlo:ad.block<Lo.n)(hc:w.cell? ad=some v)
 (hr:∀o:Oper,o.op=.load t x->∀w,w.cell? ad=some v->(execOp (Act.eval ⟨T,ds⟩) o).run P w=.ok (.value v) w/\(execOp (Act.eval ⟨T,ds⟩) o).events P w #[]=#[⟨.cell ad,false,false⟩])
 (k:∀T',T'.size=n->T'[d]?=some v->(∀k,k≠d->T'[k]?=T[k]?)->a3I P fn ops rest Q ⟨T',ds⟩ w Sh):a3I P fn ops (i::rest) Q ⟨T,ds⟩ w Sh:=by
 obtain⟨o,h1,h2,h3,h4⟩:=h.get;exact b7A h1 h2 (wn0 o h4) hs hdn hlo (World.block_lt_of_cell? w _ hc) (fun τ p=>hr o h3 (tp w τ p) hc) k
theorem a4f{f:FuncId}{args:Array Operand}{ats:Array TypeId}{Post:Value->World->(Nat->Prop)->Prop}(h:b3e ops i d (.call {callee:=.value (.func f),args,argTypes:=ats}) none)(hs:T.size=n)(hdn:d<n)
 (hcall:a8Q P f (args.map (Act.eval ⟨T,ds⟩)) w Sh Post)
 (k:∀v w' Sh' T',Post v w' Sh'->T'.size=n->T'[d]?=some v->(∀k,k≠d->T'[k]?=T[k]?)->a3I P fn ops rest Q ⟨T',ds⟩ w' Sh'):a3I P fn ops (i::rest) Q ⟨T,ds⟩ w Sh:=by
 obtain⟨o,h1,h2,h3,h4⟩:=h.get;exact b4O h1 h2 (wn0 o h4) h3 hs hdn hcall k
theorem Q7(h:ρ x=v):Runs P ρ (.move x) v:=fun o ho w=>by constructor<;>simp[go_sem,execOp,ho,h]
theorem O6(h:ρ x=v):Runs P ρ (.assign x) v:=fun o ho w=>by constructor<;>simp[go_sem,execOp,ho,h]
theorem D6{k:Nat}(h:T[k]?=some v):Act.eval ⟨T,ds⟩ (.tmp k)=v:=by
 show T.getD k undef=v;rw[Array.getD_eq_getD_getElem?,h];rfl
end
end
end Go.To
namespace Go.Proofs.YtgpbhjjajpbeeaaGreatDoor
section
open Go.RowKit Go.Lib Go.Maps Dk Pl
open Go.Conc Go.Mw
open Zn (tp Full WPs VP Zf Le)
open To
def Code.fst:Code->Code|.seq a _=>a|c=>c
def Code.snd:Code->Code|.seq _ b=>b|c=>c
def Code.inn:Code->Code|.block _ c=>c|.loop c=>c|c=>c
def Code.ops:Code->Array Oper|.region _ ops _=>ops|_=>#[]
section
variable{ρ:Operand->Value}{x y:Operand}
theorem b8O{a b:Int}(hx:ρ x=.int .i64 a)(hy:ρ y=.int .i64 b):Runs Tryz.prog ρ (.binOp .lss 3 x y 3) (.bool (decide (a<b))):=fun o ho w=>by
 constructor<;>simp[go_sem,execOp,ho,hx,hy]
theorem b8P{a b:Int}(hx:ρ x=.int .i64 a)(hy:ρ y=.int .i64 b):Runs Tryz.prog ρ (.binOp .eql 3 x y 3) (.bool (decide (a=b))):=fun o ho w=>by
 constructor<;>simp[go_sem,execOp,ho,hx,hy]<;>rfl
theorem b8Q{i:Nat}(hi:i<=1000000)(hx:ρ x=.int .i64 i)(hy:ρ y=.int .i64 1):Runs Tryz.prog ρ (.binOp .add 3 x y 3) (.int .i64 (i+1:Nat)):=fun o ho w=>by
 have hw:IntKind.i64.wrap ((i:Int)+1)=(i:Int)+1:=by rw[IntKind.wrap_i64];omega
 constructor<;>simp[go_sem,execOp,ho,hx,hy,hw]
theorem b0b{a:Option Addr}{m c:Nat}(h:ρ x=.slice a m c):Runs Tryz.prog ρ (.call {callee:=.builtin .len,args:=#[x],argTypes:=#[69]}) (.int .i64 m):=fun o ho w=>by
 constructor<;>simp[go_sem,execOp,ho,h]
theorem b8R{a:Addr}{n c i:Nat}(hi:i<n)(hx:ρ x=.slice (some a) n c)(hy:ρ y=.int .i64 i):Runs Tryz.prog ρ (.indexAddr 69 x y) (.pointer (some (a.add i))):=fun o ho w=>by
 have h1:(i:Int)<(n:Int):=by omega
 constructor<;>simp[go_sem,execOp,ho,hx,hy,hi,h1]
theorem c1m{ad:Addr}{v:Value}(hx:ρ x=.pointer (some ad))(o:Oper)(ho:o.op=.load 3 x)(w:World)(hc:w.cell? ad=some v):(execOp ρ o).run Tryz.prog w=.ok (.value v) w/\(execOp ρ o).events Tryz.prog w #[]=#[⟨.cell ad,false,false⟩]:=by
 constructor<;>simp[go_sem,execOp,ho,hx,hc]
theorem a7O{i:Nat}{c:Array Value}{v V:Value}(h:ρ x=V)(hV:V=.tuple c)(hc:c[i]?=some v):Runs Tryz.prog ρ (.extract x i) v:=fun o ho w=>by
 subst hV;constructor<;>simp[go_sem,execOp,ho,h,hc]
end
section
variable{w:World}{F:Nat->Prop}{a:Nat}{D:Dk.D}
theorem Held.to_tp{τ:Nat->Question->Nat}{p:Nat}{Φ:World->Prop}(h:Held w F Φ):Held (tp w τ p) F Φ:=let ⟨S,h1,h2⟩:=h;⟨S,h1,h2⟩
theorem A8.chh0{w':World}(h:A8 w F a D)(c:Chh (fun _=>False) w w'):A8 w' F a D:=h.frame (fun b hb=>c.block b (h.low b hb) fun h=>h) c.size
theorem Chh.any{w':World}(c:Chh (fun _=>False) w w'):Chh F w w':=c.less fun _ _ h=>h.elim
end
end
section
open Go.RowKit Go.Lib Go.Maps Dk Pl
def c1z(x:Nat->Value):Array Value:=#[x 0,x 1,x 2,x 3,x 4,x 5,x 6,x 7,x 8,x 9,x 10,x 11,x 12,x 13,x 14,x 15,x 16,x 17,x 18,x 19,x 20,x 21,x 22,x 23,x 24,x 25,x 26,x 27,x 28,x 29,x 30,x 31,x 32,x 33,x 34,x 35,x 36,x 37,x 38,x 39,x 40,x 41,x 42,x 43,x 44,x 45,x 46,x 47,x 48,x 49,x 50,x 51,x 52,x 53,x 54,x 55,x 56,x 57,x 58,x 59,x 60,x 61,x 62,x 63,x 64,x 65,x 66,x 67,x 68,x 69,x 70,x 71,x 72,x 73,x 74,x 75,x 76,x 77,x 78,x 79,x 80,x 81,x 82,x 83,x 84,x 85,x 86,x 87,x 88,x 89,x 90,x 91,x 92,x 93,x 94,x 95,x 96,x 97,x 98,x 99,x 100,x 101,x 102,x 103,x 104,x 105,x 106,x 107,x 108,x 109,x 110,x 111,x 112,x 113,x 114,x 115,x 116,x 117,x 118,x 119,x 120,x 121,x 122,x 123,x 124,x 125,x 126,x 127,x 128,x 129]
theorem b9o(x:Nat->Value):c1z x=((List.range 130).map x).toArray:=by rfl
theorem c3u(T:Array Value)(hT:T.size=130):T=c1z (fun k=>T.getD k undef):=b0Q b9o T hT
def idx(l:List Int)(x:Int):Int:=if l.contains x=true then(l.idxOf x:Nat) else -1
theorem c1A{l:List Int}{x:Int}{k:Nat}(hk:k<l.length)(h:(l.take k).contains x=false)(hx:l.getD k 0=x):idx l x=k:=by
 have hkx:l[k]=x:=by rw[List.getD_eq_getElem?_getD,List.getElem?_eq_getElem hk] at hx;exact hx
 have hm:l.contains x=true:=by rw[List.contains_iff_mem,<-hkx];exact List.getElem_mem hk
 unfold idx;rw[if_pos hm];have e:l=l.take k++(l[k]::l.drop (k+1)):=by rw[<-List.drop_eq_getElem_cons hk,List.take_append_drop]
 have hn:x∉l.take k:=fun hmm=>by rw[<-List.contains_iff_mem,h] at hmm;cases hmm
 rw[e,List.idxOf_append,if_neg hn,hkx,List.idxOf_cons_self,List.length_take];simp;omega
theorem b6Y(v:Value)(l:List Int)(x:Int)(w:World)(h:Ints w v l)(hl:l.length<=60):Calls Tryz.prog 136 #[v,.int .i64 x] w fun e w'=>e=.returned (.int .i64 (idx l x))/\w'=w:=by
 obtain⟨va,vc,rfl,hvc,hvc2,-⟩:=h.open;obtain⟨n,hn⟩:∃n,l.length=n:=⟨_,rfl⟩;obtain⟨r,hr⟩:∃r,idx l x=r:=⟨_,rfl⟩;have H:=Lib.hid h;have HN:=Lib.hid hn;have HR:=Lib.hid hr;rw[hn] at hl hvc⊢;rw[hr];clear h hn hr;go_enter Tryz.func136,Tryz.ntmps136
 go_wp2_with fail
 go_loopw [8] (fun i wr=>∃k:Nat,i=.int .i64 k/\k<=n/\(l.take k).contains x=false/\wr=w) (fun i _=>n - (intOf i).toNat)
 case atStart=>exact⟨0,rfl,by omega,by simp,rfl⟩
 case round=>
  obtain⟨k,rfl,hk,hno,rfl⟩:=hrel;by_cases hlt:k<n
  ·obtain⟨vb,rfl,vcell⟩:=H.out.at (Ext.refl _) (k:=k) (by rw[HN.out];exact hlt);obtain⟨y,hy⟩:∃y,l[k]'(by rw[HN.out];exact hlt)=y:=⟨_,rfl⟩;have hyd:l.getD k 0=y:=by rw[List.getD_eq_getElem?_getD,List.getElem?_eq_getElem (by rw[HN.out];exact hlt)];exact hy
   rw[hy] at vcell;have hki:(k:Int)<(n:Int):=by omega
   by_cases hxy:x=y
   ·have hfin:r=(k:Int):=by rw[<-HR.out];exact c1A (by rw[HN.out];exact hlt) hno (hyd.trans hxy.symm)
    subst hxy;have HF:=Lib.hid hfin;clear hno hy hyd hfin;go_wp2_with fail
    exact bodyPost_ret (v:=.int .i64 k) (by simp[results,Tryz.results136]) rfl ⟨by rw[HF.out],rfl⟩
   ·have hno2:(l.take (k+1)).contains x=false:=by
     rw[takeD_snoc (by rw[HN.out];exact hlt),a1q,hno,hyd,Bool.false_or];exact beq_eq_false_iff_ne.2 (Ne.symm hxy)
    have HNO:=Lib.hid hno2;clear hno hno2 hy hyd;go_wp2_with fail
    go_roundw
    case rel=>exact⟨k+1,by go_num,by omega,HNO.out,by trivial⟩
    case measure=>simp[intOf];omega
  ·obtain rfl:k=n:=by omega
   have hfin:r = -1:=by
    rw[<-HR.out];unfold idx;rw[List.take_of_length_le (by rw[HN.out];exact Nat.le_refl _)] at hno;rw[if_neg (by rw[hno];decide)]
   subst hfin;clear hno;go_wp2_with fail
   exact bodyPost_ret (v:=.int .i64 (-1)) (by simp[results,Tryz.results136]) rfl ⟨rfl,rfl⟩
noncomputable def mgC(n:Nat):Code:=Code.behind n (Tryz.f81.body.getD .skip)
noncomputable def mgP(n:Nat):Code:=Code.head (mgC n)
theorem c5u:mgC 0=.seq (mgP 0) (mgC 1):=by kernel_rfl
theorem c5v:mgC 1=.seq (mgP 1) (mgC 2):=by kernel_rfl
theorem c5w:mgC 2=.seq (mgP 2) (mgC 3):=by kernel_rfl
theorem c5x:mgC 3=.seq (mgP 3) (mgC 4):=by kernel_rfl
structure a9m(W:World)(B mb fb sb:Nat)(fs:List Int):Prop where
 box:∃c2 c3 c4,o7 W mb 255 #[y8 sb,.slice (some ⟨fb,0,none⟩) fs.length fs.length,c2,c3,c4]
 row:W.heap[fb]?=some (.cells (fs.map (Value.int .i64)).toArray 257)
 new:B<=mb/\B<=fb
def cm1(k:Nat):Bool:=k==6||(decide (17<=k)&&decide (k<=27))
def QM1(T:Array Value)(sb n:Nat)(w:World):Exit->Act->World->Prop
 | .normal,a',w'=>a'.defers=[]/\Kp cm1 T a'.tmps/\∃mb fb,a'.tmps[6]?=some (y8 mb)/\a9m w' w.heap.size mb fb sb (List.replicate n 0)/\Ext w w'
 | _,_,_=>False
theorem c4P{T:Array Value}{sb a n:Nat}{sa:Option Addr}{c1 c2 c4 c5:Value}{sc:Nat}{w:World}(hT:T.size=130)(h0:T[0]?=some (y8 sb))(hb:o7 w sb 138 #[y8 a,c1,c2,.slice sa n sc,c4,c5])(hn:n<=60):(mgP 1).wp Tryz.prog (QM1 T sb n w) ⟨T,[]⟩ w:=by
 obtain⟨_,h0'⟩:=slot h0;have b3:=(hb.cell 3).trans (show _=some (Value.slice sa n sc) from rfl);have hmk:=run_make_row' (P:=Tryz.prog) 252 257 (.int .i64 0) 8 Tryz.underlying252 (by kernel_rfl) rfl .i64 .i64 n (by omega) (by omega) w;have hmm:=@run_makeMap Tryz.prog;clear h0 hb;unfold y8 at h0';unfold mgP mgC;simp only[Code.behind,Code.head,Tryz.f81,Option.getD_some];go_wp2_with fail
 refine⟨rfl,?_,w.heap.size+1+1+1,w.heap.size,?_,⟨⟨.map (some (w.heap.size+1)),.slice none 0 0,.map (some (w.heap.size+1+1)),?_⟩,?_,by omega,Nat.le_refl _⟩,?_⟩
 ·dsimp only;exact Kp.set (Kp.set (Kp.set (Kp.set (Kp.set (Kp.set (Kp.set (Kp.set (Kp.set (Kp.set (Kp.set (Kp.set (Kp.refl _ _) rfl) rfl) rfl) rfl) rfl) rfl) rfl) rfl) rfl) rfl) rfl) rfl
 ·dsimp only;exact a1a (by simp only[Array.size_setIfInBounds,hT];decide)
 ·rw[List.length_replicate];exact o7.new _ _ (by simp)
 ·rw[List.map_replicate,b2z];show(World.heap _)[_]?=_;exact(heap_alloc_old _ _ (by simp;omega)).trans ((heap_alloc_old _ _ (by simp;omega)).trans ((heap_alloc_old _ _ (by simp)).trans (heap_alloc_new w _)))
 ·exact((((Ext.refl w).new _).new _).new _).new _
noncomputable def mgL:Code:=Code.inn (Code.inn (Code.snd (mgP 2)))
noncomputable def mgB:Code:=Code.inn (Code.fst (Code.snd (Code.snd mgL)))
noncomputable def mgV:Code:=Code.snd mgB
noncomputable def mg2:Code:=Code.fst (mgP 2)
noncomputable def mg3:Code:=Code.fst mgL
noncomputable def mg4:Code:=Code.fst mgB
noncomputable def mg9:Code:=Code.snd (Code.snd (Code.snd mgL))
noncomputable def c4Q:Code:=Code.fst (mgP 3)
theorem c3v:mgP 2=.seq (.region 2 (Code.ops mg2) false) (.block 0 (.loop mgL)):=by kernel_rfl
theorem c3w:mgL=.seq (.region 3 (Code.ops mg3) false) (.seq (.cond (.tmp 31) .skip (.exit 0)) (.seq (.block 1 (.seq (.region 4 (Code.ops mg4) false) mgV)) (.region 9 (Code.ops mg9) false))):=by kernel_rfl
def QMV(T:Array Value)(B mb fb sb:Nat)(fs:List Int)(r:Int)(w:World):Exit->Act->World->Prop
 | .normal,a',w'=>∃i:Nat,r=(i:Int)/\i<fs.length/\fs.getD i 0=0/\a'.defers=[]/\a'.tmps.size=130/\(∀k,k=0\/k=1\/k=6\/k=28\/k=29\/k=30->a'.tmps[k]?=T[k]?)/\a9m w' B mb fb sb (fs.set i 1)/\Off fb w w'
 | .ret,a',w'=>(r = -1\/∃i:Nat,r=(i:Int)/\i<fs.length/\fs.getD i 0≠0)/\a'.defers=[]/\a'.tmps[4]?=some (.pointer none)/\a'.tmps[5]?=some (.iface 37 (.int .i64 8))/\w'=w
 | _,_,_=>False
theorem idx_range(l:List Int)(x:Int):idx l x = -1\/∃i:Nat,idx l x=(i:Int)/\i<l.length:=by
 unfold idx;split
 ·rename_i h;rw[List.contains_iff_mem] at h;exact .inr ⟨_,rfl,List.idxOf_lt_length_iff.2 h⟩
 ·exact .inl rfl
theorem c1B(T:Array Value)(hT:T.size=130):∃x,T=c1z x/\∀k,k<130->T[k]?=some (x k):=by
 refine⟨_,c3u T hT,fun k hk=>?_⟩;rw[Array.getD_eq_getD_getElem?,Array.getElem?_eq_getElem (by omega)];rfl
theorem c5y{T:Array Value}{sb mb fb a B ic:Nat}{ia:Option Addr}{fs ids:List Int}{x:Int}{c1 c3 c4 c5:Value}{w:World}(hT:T.size=130)(h0:T[0]?=some (y8 sb))(h6:T[6]?=some (y8 mb))(h8:T[8]?=some (.int .i64 x))(hm:a9m w B mb fb sb fs)
 (hb:o7 w sb 138 #[y8 a,c1,.slice ia ids.length ic,c3,c4,c5])(hi:Ints w (.slice ia ids.length ic) ids)(hl:ids.length<=60)(hfl:fs.length=ids.length)(h01:∀v∈fs,v=0\/v=1):mgV.wp Tryz.prog (QMV T B mb fb sb fs (idx ids x) w) ⟨T,[]⟩ w:=by
 obtain⟨y,e,hx⟩:=c1B T hT;have x_of:∀{k:Nat}{v:Value},k<130->T[k]?=some v->y k=v:=fun hk h=>Option.some.inj ((hx _ hk).symm.trans h);have e0:=x_of (by decide) h0;have e6:=x_of (by decide) h6;have e8:=x_of (by decide) h8;refine(congrArg (fun T'=>Code.wp _ _ _ ⟨T',[]⟩ _) (U0 (k:=8) (U0 (k:=6) (U0 (k:=0) e e0) ((congrFun (a0F e0) 6).trans e6)) ((congrFun (a0F ((congrFun (a0F e0) 6).trans e6)) 8).trans ((congrFun (a0F e0) 8).trans e8)))).mpr ?_;have keep:∀k,k=0\/k=1\/k=6\/k=28\/k=29\/k=30->T[k]?=some (y k):=fun k hk=>hx k (by omega);have k0:=h0;have k6:=h6;have HK:=Lib.hid keep;have HK0:=Lib.hid k0;have HK6:=Lib.hid k6;have b2:=(hb.cell 2).trans (show _=some (Value.slice ia ids.length ic) from rfl);have hix:=b6Y _ ids x w hi hl;obtain⟨n,hn⟩:∃n,ids.length=n:=⟨_,rfl⟩;obtain⟨r,hr⟩:∃r,idx ids x=r:=⟨_,rfl⟩;have hrg:=idx_range ids x;rw[hn] at hix b2 hfl;rw[hr] at hix hrg⊢;obtain⟨d2,d3,d4,hbx⟩:=hm.box;rw[hfl] at hbx;have m1:=(hbx.cell 1).trans (show _=some (Value.slice (some ⟨fb,0,none⟩) n n) from rfl);have hrow:o7 w fb 257 (fs.map (Value.int .i64)).toArray:=hm.row;have HIX:=Lib.hid hix;have HM:=Lib.hid hm;have HRW:=Lib.hid hrow;have HFL:=Lib.hid hfl;have H01:=Lib.hid h01;have HN:=Lib.hid hn;have HBX:=Lib.hid hbx;clear e hx hT h0 h6 h8 hm hb hi hl hix hr hbx hrow hfl h01 e0 e6 e8 keep k0 k6 x_of hn;unfold y8;unfold mgV mgB mgL mgP mgC;simp only[Code.behind,Code.head,Code.fst,Code.snd,Code.inn,Tryz.f81,Option.getD_some,c1z,up,reduceIte,Nat.reduceEqDiff];go_wp2_with fail
 refine HIX.out.mono ?_;rintro e w1 ⟨rfl,rfl⟩;clear HIX;rcases hrg with rfl|⟨i,rfl,hin⟩
 ·go_wp2_with fail
  exact⟨.inl rfl,rfl,rfl,rfl,rfl⟩
 ·rw[HN.out] at hin;have hi0:¬((i:Int)<0):=by omega
  have hini:(i:Int)<(n:Int):=by omega
  have hil:i<fs.length:=by rw[HFL.out];exact hin
  have hc:=HRW.out.cell i;have hfz:=HRW.out.free i;rw[List.getElem?_toArray,List.getElem?_map,List.getElem?_eq_getElem hil] at hc;have hfd:fs.getD i 0=fs[i]:=by rw[List.getD_eq_getElem?_getD,List.getElem?_eq_getElem hil];rfl
  have hz:=H01.out fs[i] (List.getElem_mem hil);obtain⟨f,hf⟩:∃f,fs[i]=f:=⟨_,rfl⟩;rw[hf] at hc hz hfd;replace hc:w1.cell? ⟨fb,i,none⟩=some (.int .i64 f):=hc;have HIL:=Lib.hid hil;have HFD:=Lib.hid hfd;clear hil hfd hf;rcases hz with rfl|rfl
  ·go_wp2_with fail
   refine⟨i,rfl,HIL.out,HFD.out,rfl,rfl,fun k hk=>?_,?_,?_⟩
   ·rcases hk with rfl|rfl|rfl|rfl|rfl|rfl
    ·exact HK0.out.symm
    ·exact(HK.out 1 (by omega)).symm
    ·exact HK6.out.symm
    ·exact(HK.out 28 (by omega)).symm
    ·exact(HK.out 29 (by omega)).symm
    ·exact(HK.out 30 (by omega)).symm
   ·refine⟨⟨d2,d3,d4,?_⟩,?_,HM.out.new⟩
    ·rw[List.length_set,HFL.out];have hne:mb≠fb:=a3i HBX.out HRW.out (by decide);exact(Below.heap_setCell _ _ _ _ hne).trans HBX.out
    ·have:=HRW.out.set i (.int .i64 1);rw[List.map_set];unfold o7 at this;simpa using this
   ·exact⟨rfl,rfl,rfl,by simp,fun b hb=>Below.heap_setCell _ _ _ _ hb⟩
  ·go_wp2_with fail
   exact⟨.inr ⟨i,rfl,HIL.out,by rw[HFD.out];decide⟩,rfl,rfl,rfl,rfl⟩
end
end Go.Proofs.YtgpbhjjajpbeeaaGreatDoor
