/- A part of what the last file proves. -/
import Derived.Test.YtgpbhjjajpbeeaaGreatDoorL09
import Derived.LaidEql
import Derived.Stop.Asserts
import Derived.RowKitTokens
set_option linter.all false
set_option maxRecDepth 100000
set_option maxHeartbeats 4000000
namespace Go.Proofs.YtgpbhjjajpbeeaaGreatDoor
section
open Go.RowKit Go.Lib Go.Maps Dk
theorem a8E(f:Nat->Nat)(c:Nat):∀l:List (Nm×Nat),(∀p∈l,f p.2<=c)->(l.map fun p=>f p.2).sum<=l.length*c:=by
 intro l
 induction l with
 | nil=>intro _;simp
 | cons p l ih=>
  intro h;have h1:=h p (by simp);have h2:=ih fun q hq=>h q (by simp[hq]);simp only[List.map_cons,List.sum_cons,List.length_cons,Nat.succ_mul];omega
theorem Ext.off{w w1 w2:World}(h:Ext w w1){i:Nat}(hO:Off i w1 w2)(hi:w.heap.size<=i):Ext w w2:=
 ⟨hO.os.trans h.os,hO.tape.trans h.tape,hO.output.trans h.output,by have:=hO.size;have:=h.size;omega,fun b hb=>(hO.block b (by omega)).trans (h.block b hb)⟩
theorem o7.grown'{w w':World}{n:Nat}{t:TypeId}{cs:Array Value}(h:o7 w n t cs){row:Option Nat}(hg:w.grownBy w' row)(hr:row≠some n):o7 w' n t cs:=
 (hg.block n h.lt (fun e=>hr e.symm)).trans h
def szs(d:D)(vis:List (Nm×Nat)):Nat:=(vis.map fun p=>(d.node p.2).data.length).sum
theorem b4c(F:Nat->Prop)(a:Nat)(d:D)(name:Nm)(u:Value)(l:List UInt8)(w:World)(h:y9 w F a d)(hb:Held w F (fun W=>Bytes W u l))(hn:name.length<=maxLen)(hl:l.length<=35184372088832)
 (hds:∀x∈d.ids,(d.node x).data.length<=35184372088832)(hnl:d.now.length<=32768):
 Calls Tryz.prog 91 #[y8 a,strV name,u] w fun e w'=>c2l F a (d.append name l) w e w':=by
 have hfind:=a5y F a d name w h hn;obtain⟨i0,hi,hz0,hz1,hz2⟩:=info_parts a4q;have HF:=Lib.hid hfind;clear hfind h;obtain⟨ua,ucap,hu⟩:∃a c,u=.slice a l.length c:=by obtain⟨a,c,h,_⟩:=hb.get;exact⟨a,c,h⟩
 subst hu;have HBy:=Lib.hid hb;clear hb;unfold y8 strV at *;go_enter Tryz.func91,Tryz.ntmps91
 go_wp2_with fail
 refine HF.out.mono ?_;intro e w1 hfi;obtain⟨hD,hC,hc⟩:=hfi.cases;have hxi:∀x,(d.find name).1=some x->x∈(d.find name).2.2.ids:=fun x hx=>D.find_mem d name x hx hD.wf;have hby1:=HBy.out.step hC;have hfm:=a3m d name;have hds1:∀x∈(d.find name).2.2.ids,((d.find name).2.2.node x).data.length<=35184372088832:=by rw[hfm.2.2.1,hfm.2.2.2.1];exact hds
 have hnl1:(d.find name).2.2.now.length<=32768:=by rw[hfm.2.1];exact hnl
 rcases hc with⟨b,k,rfl,hx,hk,hv⟩|⟨x,rfl,hx⟩
 ·have HD:=Lib.hid hD;have HC:=Lib.hid hC;clear hD hC hfi hby1 hfm hds1 hnl1;have HV:=Lib.hid hv;clear hv;go_wp2;go_ret;refine⟨F,.iface 132 (.pointer (some ⟨b,0,none⟩)),rfl,?_,?_,HC.out,fun b hb=>hb⟩
  ·rw[a8C hx];exact HV.out
  ·rw[a8C hx];exact HD.out
 ·have hxm:=hxi x hx;have hdx:=hds1 x hxm;have HX:=Lib.hid hx;have happ:=b6Q (b:=l) hx;have HAP:=Lib.hid happ;have HC:=Lib.hid hC;have HB1:=Lib.hid hby1;have HDS:=Lib.hid hds1;have HNL:=Lib.hid hnl1;clear hC hfi hby1 hxi hfm hds1 hnl1 happ hx;generalize hE:(d.find name).2.2=E at *;clear hE;obtain⟨m1,m2,mv,gs,dv,hr⟩:=hD;have c0:=hr.box.cell 0;have hnum:=hr.num;obtain⟨w2,hrange,hRA,hExt,hsz2⟩:=hr.now.range Tryz.underlying171;have HR:=Lib.hid hr;have HRA:=Lib.hid hRA;have HEX:=Lib.hid hExt;clear hr hRA hExt;go_wp2;go_loopw [9] (fun i wr=>∃vis,i=.int .i64 (szs E vis:Nat)/\P8 Tryz.prog 9 strV y8 wr w1.heap.size m1 E.now vis/\Ext w1 wr) (fun _ wr=>E.now.length - b2a wr w1.heap.size)
  case atStart=>exact⟨[],rfl,HRA.out,HEX.out⟩
  case round=>
   obtain⟨vis,rfl,hRA,hEx⟩:=hrel;have hvl:=hRA.length;have hseen:=hRA.seen;rcases hRA.next 0 with⟨p,w3,hnx,hpm,hRA3,hO3,hent,hvlt⟩|⟨hnx,hperm⟩
   ·have hpi:=HR.out.wf.now p hpm;have hEx3:Ext w1 w3:=hEx.off hO3 (Nat.le_refl _);obtain⟨hb,ho⟩:=(HR.out.ext hEx3).file p.2 hpi;obtain⟨da,dc,hdv⟩:=ownsRow_form ho;rw[hdv] at hb;have c1:=hb.cell 0;have hdl:=HDS.out p.2 hpi;have hsum:szs E (vis++[p])=szs E vis+(E.node p.2).data.length:=by simp[szs]
    have hmem:∀q∈vis,(E.node q.2).data.length<=35184372088832:=fun q hq=>HDS.out q.2 (HR.out.wf.now q (hRA.mem q hq));have hsb:szs E vis<=vis.length*35184372088832:=a8E (fun x=>(E.node x).data.length) _ vis hmem;have hnl2:=HNL.out;have hsb2:szs E vis<=1152921504606846976:=Nat.le_trans hsb (by omega);have hseen3:=hRA3.seen;have HH:=Lib.hid hRA3;have HS:=Lib.hid hsum;have HSN:=Lib.hid hseen;have HSN3:=Lib.hid hseen3;have HE3:=Lib.hid hEx3;have HO3:=Lib.hid hO3;clear ho hb hRA3 hsum hseen hseen3 hmem hsb hRA hO3 hEx3;unfold strV y8 at hnx hent;go_wp2;go_roundw
    case rel=>
     refine⟨vis++[p],?_,HH.out,HE3.out⟩;rw[HS.out];go_num
    case measure=>rw[HSN.out,HSN3.out];simp;omega
   ·have hused:szs E vis=E.used:=by unfold szs D.used;exact(hperm.map _).sum_nat
    have hsb:E.used<=E.now.length*35184372088832:=a8E (fun x=>(E.node x).data.length) _ E.now (fun q hq=>HDS.out q.2 (HR.out.wf.now q hq));have hnl2:=HNL.out;have hub:E.used<=1152921504606846976:=Nat.le_trans hsb (by omega);have hRr:=HR.out.ext hEx;have c3:=hRr.box.cell 3;obtain⟨hb,ho⟩:=hRr.file x hxm;obtain⟨da,dc,hdv⟩:=ownsRow_form ho;have hfl0:=hRr.flat x hxm;have byte0:∀x∈(Value.int .u8 0).cells,isByte x:=fun x hx=>⟨0,by simpa [Value.cells] using hx⟩;rw[hdv] at hb ho hfl0;have hbx:=G5 ho hb (by decide);have d0:=hb.cell 0;have g0:=hb.free 0;have hby:=(HB1.out.ext hEx);rw[hused];have HRR:=Lib.hid hRr;have HEX2:=Lib.hid hEx;have HBX:=Lib.hid hb;have HNE:=Lib.hid hbx;have HDV:=Lib.hid hdv;have HBYR:=Lib.hid hby;clear hRr hEx hb hbx hRA hperm hseen hsb hused hby hdv c0;by_cases hroom:E.room - (E.used:Int)<(l.length:Int)
    ·go_wp2;go_ret;have hE4:Ext w1 (wr.alloc (.cells #[strV name,.int .i64 10] 134)):=HEX2.out.new _;refine⟨F,.iface 132 (.pointer (some ⟨wr.heap.size,0,none⟩)),rfl,?_,?_,HC.out.trans (Chg.ext hE4),fun b hb=>hb⟩
     ·rw[HAP.out,if_pos hroom];exact a02 HRR.out.low
     ·rw[HAP.out,if_pos hroom];exact⟨m1,m2,mv,gs,dv,HR.out.ext hE4⟩
    ·go_wp2_with (at_builtin;go_must (refine a0O (F:=isByte) rfl _ _ 25 rfl 0 5 i0 (.int .u8 0) 1 1 Tryz.underlying25 hi hz0 hz1 hz2 rfl (by omega) (.slice da (E.node x).data.length dc) (E.node x).data.length ((E.node x).data.map byteV) rfl ho (.slice ua l.length ucap) l.length (l.map byteV) rfl HBYR.out.get (by simp) (a0S l) (by unfold maxLen;omega) (by omega) (by omega) byte0 (a8H l) hfl0 ?_);intro b6 c6 w6 hown6 hgrow6 hat6 hfl6;have hb6:=HBX.out.grown' hgrow6 HNE.out;have d6:=o7.cell hb6 0;have g6:=o7.free hb6 0;have HB6:=Lib.hid hb6;clear hb6)
     go_ret;have hlen:((E.node x).data++l).length=(E.node x).data.length+l.length:=by simp
     have hne6:(Value.slice b6 ((E.node x).data.length+l.length) c6).ownBlock≠some x:=G5 hown6 HB6.out (by decide);have hR2:=HRR.out.node' (w':=w6.setCell ⟨x,0,none⟩ (.slice b6 ((E.node x).data.length+l.length) c6)) hxm
      (fun b hb hne hno=>(Below.heap_setCell _ _ _ _ hne).trans (hgrow6.block b hb (fun e=>hno (by rw[HDV.out];exact e.symm))))
      (by simpa [World.setCell] using hgrow6.size) (HB6.out.set 0 _) (l:=(E.node x).data++l)
      (by unfold OwnB;rw[hlen,List.map_append];exact ownsRow_setCell_other (a:=⟨x,0,none⟩) hown6 hne6 _)
      (fun b hb=>by rw[HDV.out];rcases hat6 with h|h<;>rw[h] at hb;(exact .inl hb);(injection hb with hb;exact .inr (Nat.le_of_eq hb)))
      (by rw[hlen];have:=HRR.out.wf.part x hxm;omega) (hfl6.keep fun b hb=>Below.heap_setCell _ _ _ _ (fun(e:b=x)=>hne6 (e▸hb))) (G:=fun b=>F b\/wr.heap.size<=b/\b<w6.heap.size) (fun b=>by simp[World.setCell])
     have hxF:=HRR.out.fx x hxm;rw[HDV.out] at hxF;have hC2:Chg F (fun b=>F b\/wr.heap.size<=b/\b<w6.heap.size) wr (w6.setCell ⟨x,0,none⟩ (.slice b6 ((E.node x).data.length+l.length) c6)):=
      ⟨hgrow6.os,hgrow6.tape,hgrow6.output,by simpa [World.setCell] using hgrow6.size,fun b hb hF=>(Below.heap_setCell _ _ _ _ (fun e=>hF (by rw[show b=x from e];exact hxF.1))).trans (hgrow6.block b hb (fun e=>hF (hxF.2 b e.symm))),fun b hb=>hb.elim .inl fun h=>.inr h.1⟩
     refine⟨_,.nilIface,rfl,?_,?_,HC.out.trans ((Chg.ext HEX2.out).trans hC2),fun b hb=>.inl hb⟩
     ·rw[HAP.out,if_neg (by omega)];exact a3l _ _
     ·rw[HAP.out,if_neg (by omega)];exact⟨m1,m2,mv,gs,_,hR2⟩
end
section
open Go.RowKit Go.Lib Go.Maps Dk
section
variable{w w':World}{F:Nat->Prop}{a m1 m2:Nat}{mv:Value}{gs:List Nat}{dv:Nat->Value}{d:D}
theorem DiskRep.still(h:DiskRep w F a m1 m2 mv gs dv d):DiskRep (w.setCell ⟨a,2,none⟩ (.slice none 0 0)) F a m1 m2 (.slice none 0 0) [] dv {d with moves:=[]}:=by
 have hO:=(Off.refl a w).setCell 2 (.slice none 0 0);have hb:=h.box;exact{
  box:=h.box.set 2 _
  now:=h.now.off hO (h.map_ne hb).1
  safe:=h.safe.off hO (h.map_ne hb).2
  ne:=h.ne
  rows:=⟨rfl,by simp⟩
  outer:=⟨rfl,Or.inl ⟨rfl,rfl⟩⟩
  outf:=fun g c e fr h=>by cases h
  flat:=fun x hx=>(h.flat x hx).keep fun b hb'=>hO.block b (fun e=>G5 (h.file x hx).2 hb (by decide) (e▸hb'))
  file:=fun x hx=>⟨(hO.block x (a3T (h.file x hx).1 hb (by decide))).trans (h.file x hx).1,Dep.row (h.file x hx).2 _ fun b hb'=>hO.block b (fun e=>G5 (h.file x hx).2 hb (by decide) (e▸hb'))⟩
  apart:=h.apart
  fa:=h.fa
  fm:=h.fm
  fg:=by simp
  fo:=by simp[Value.ownBlock]
  fx:=h.fx
  low:=fun b hb=>by rw[hO.size];exact h.low b hb
  wf:=⟨h.wf.now,h.wf.safe,by simp,h.wf.part,h.wf.ids⟩
  num:=h.num}
theorem DiskRep.outer_cell(h:DiskRep w F a m1 m2 mv gs dv d){k:Nat}{l:List Mv}(hk:d.moves[k]?=some l):∃b c g,mv=.slice (some ⟨b,0,none⟩) d.moves.length c/\w.cell? ⟨b,k,none⟩=some (mvV g l)/\a0C w g l:=by
 have hlt:k<d.moves.length:=by
  rcases Nat.lt_or_ge k d.moves.length with h|h
  ·exact h
  ·rw[List.getElem?_eq_none h] at hk;cases hk
 have hl:=h.rows.1;have ho:=h.outer;rcases h.outer.2 with⟨_,h0⟩|⟨b,cap,cur,rfl,_,_,_,_,_,_⟩
 ·omega
 ·have hg:gs[k]?=some gs[k]:=List.getElem?_eq_getElem (by omega);refine⟨b,cap,gs[k],rfl,?_,h.rows.2 k _ l hg hk⟩;have hz:(gs.zip d.moves)[k]?=some (gs[k],l):=by rw[List.getElem?_zip_eq_some];exact⟨hg,hk⟩
  have hm:((gs.zip d.moves).map fun p=>mvV p.1 p.2)[k]?=some (mvV gs[k] l):=by rw[List.getElem?_map,hz];rfl
  rw[ho.cellAt k (by omega)];exact hm
end
theorem a4X{ms:List (List Mv)}:∀{m:List (Nm×Nat)}{p:Nm×Nat},p∈ms.foldl D5 m->p∈m\/∃l∈ms,∃x∈l,x.2=some p.2:=by
 induction ms with
 | nil=>intro m p h;exact .inl h
 | cons l ms ih=>
  intro m p h;rcases ih h with h|⟨k,hk,h⟩
  ·rcases a03 h with h|h
   ·exact .inl h
   ·exact .inr ⟨l,by simp,h⟩
  ·exact .inr ⟨k,by simp[hk],h⟩
theorem b2J(F:Nat->Prop)(a:Nat)(d:D)(w:World)(h:y9 w F a d)(hml:d.moves.length<=1000000)(hms:∀l∈d.moves,l.length<=1000000/\∀m∈l,m.1.length<=maxLen):
 Calls Tryz.prog 53 #[y8 a] w fun e w'=>c2l F a d.syncDir w e w':=by
 have hfail:=a6u F a d w h;have HF:=Lib.hid hfail;clear hfail h;have hfn:=d.fails_now;have hsd:d.syncDir=if d.fails.1=true then(.file 9 [],d.fails.2) else(.ok,{d.fails.2 with safe:=d.fails.2.moves.foldl D5 d.fails.2.safe,moves:=[]}):=by
  unfold D.syncDir;rw[hfn.2.1,hfn.2.2.1]
 rw[<-hfn.2.2.1] at hml hms;have HM:=Lib.hid hms;clear hms;have HSD:=Lib.hid hsd;clear hsd hfn;unfold y8;go_enter Tryz.func53,Tryz.ntmps53
 go_wp2_with fail
 refine HF.out.mono ?_;rintro e w1 ⟨rfl,hD,hO⟩;have hl1:∀b,F b->b<w1.heap.size:=hD.low;have hfa:F a:=hD.fa;have HC:=Lib.hid (Chg.off (F:=F) hO hfa);clear hO
 cases hf:d.fails.1 with
 | true=>
  have HD:=Lib.hid hD;clear hD;go_wp2;go_ret;refine⟨F,.iface 132 (.pointer (some ⟨w1.heap.size,0,none⟩)),rfl,?_,?_,HC.out.trans (Chg.ext ((Ext.refl w1).new _)),fun b hb=>hb⟩
  ·rw[HSD.out,if_pos hf];exact a02 (name:=[]) hl1
  ·rw[HSD.out,if_pos hf];exact HD.out.ext ((Ext.refl w1).new _)
 | false=>
  have hff:¬d.fails.1=true:=by rw[hf];decide
  generalize hE:d.fails.2=E at *;clear hE;obtain⟨m1,m2,mv,gs,dv,hr⟩:=hD;have c1:=hr.box.cell 1;have c2:=hr.box.cell 2;obtain⟨mva,mvc,rfl⟩:=ownsRow_form hr.outer;have HR:=Lib.hid hr;clear hr;go_wp2;go_loopw [15] (fun i wr=>∃k:Nat,k<=E.moves.length/\i=.int .i64 k/\DiskRep wr F a m1 m2 (.slice mva E.moves.length mvc) gs dv {E with safe:=(E.moves.take k).foldl D5 E.safe}/\Chg F F w1 wr) (fun i _=>E.moves.length - (intOf i).toNat)
  case atStart=>exact⟨0,Nat.zero_le _,rfl,HR.out,Chg.refl _ _⟩
  case round=>
   obtain⟨k,hk,rfl,hr,hC⟩:=hrel;have d1:=hr.box.cell 1;by_cases hlt:k<E.moves.length
   ·obtain⟨l,hm⟩:∃l,E.moves[k]?=some l:=⟨_,List.getElem?_eq_getElem hlt⟩;obtain⟨b,c,g,hbc,hcell,hrow⟩:=hr.outer_cell hm;injection hbc with hb1 hb2 hb3;subst hb1;have hml:=HM.out l (List.mem_of_getElem? hm);have hset:=set_any m2 g _ l wr hr.safe hrow hml.2 hml.1;have htk:E.moves.take (k+1)=E.moves.take k++[l]:=by rw[List.take_add_one,hm];rfl
    have HT:=Lib.hid htk;have HRR:=Lib.hid hr;have HC2:=Lib.hid hC;have HS:=Lib.hid hset;have HLM:=Lib.hid (List.mem_of_getElem? hm);clear htk hr hC hset hrow hml hm hb2 hb3;unfold mvV at hcell HS;go_wp2_with fail
    refine HS.out.mono ?_;rintro e w3 ⟨rfl,hN3,hC3⟩;have HN3:=Lib.hid hN3;have HC3:=Lib.hid hC3;clear hN3 hC3;go_wp2;go_roundw
    case rel=>
     have hids:∀p∈D5 ((E.moves.take k).foldl D5 E.safe) l,p.2∈E.ids:=by
      intro p hp;rcases a03 hp with hp|⟨x,hx,e⟩
      ·rcases a4X hp with hp|⟨q,hq,x,hx,e⟩
       ·exact HR.out.wf.safe p hp
       ·exact HR.out.wf.moves q (List.mem_of_mem_take hq) x hx _ e
      ·exact HR.out.wf.moves l HLM.out x hx _ e
     have hR3:=HRR.out.safe' (fun b hb hne=>HC3.out.block b hb hne) HC3.out.size HN3.out hids;refine⟨k+1,by omega,by go_num,?_,?_⟩
     ·rw[HT.out,List.foldl_append];exact hR3
     ·exact HC2.out.trans ⟨HC3.out.os,HC3.out.tape,HC3.out.output,HC3.out.size,fun b hb hF=>HC3.out.block b hb (fun e=>hF (e▸HRR.out.fm.2)),fun b hb=>.inl hb⟩
    case measure=>simp[intOf];omega
   ·obtain rfl:k=E.moves.length:=by omega
    rw[List.take_length] at hr;have f2:=hr.box.free 2;have d2:=hr.box.cell 2;have HRR:=Lib.hid hr;have HC2:=Lib.hid hC;clear hr hC;go_wp2;go_ret;have hR2:=HRR.out.still;refine⟨F,.nilIface,rfl,?_,?_,HC.out.trans (HC2.out.trans (Chg.off ((Off.refl a wr).setCell 2 _) hfa)),fun b hb=>hb⟩
    ·rw[HSD.out,if_neg hff];exact a3l _ _
    ·rw[HSD.out,if_neg hff];exact⟨m1,m2,_,_,dv,hR2⟩
def D.fail(d:D)(after times:Int):D:={d with wait:=after.toNat,bad:=times.toNat}
end
section
open Go.RowKit Go.Lib Go.Maps Dk
def Dk.cut(tail:Nat)(n:Nd):Nd:=⟨n.data.take (n.safe+tail%(n.data.length - n.safe+1)),n.safe+tail%(n.data.length - n.safe+1)⟩
def Dk.D.stepped(d:D)(dir:Nat):List (Nm×Nat):=(d.moves.take (dir%(d.moves.length+1))).foldl D5 d.safe
theorem OwnB.take{w:World}{B:Nat}{ao:Option Addr}{n cap:Nat}{l:List UInt8}(h:OwnB w B (.slice ao n cap) l){k:Nat}(hk:k<=l.length):OwnB w B (.slice ao k cap) (l.take k):=by
 unfold OwnB at *;have hl:(l.take k).length=k:=by rw[List.length_take];omega
 rw[hl];obtain⟨h1,h2⟩:=h;refine⟨by rw[List.length_map,hl,Nat.mul_one],?_⟩;rcases h2 with⟨e,h0⟩|⟨g,c,cur,e,hb,hg,h3,h4,h5,h6⟩
 ·injection e with e1 e2 e3;subst e1;subst e3;have:k=0:=by omega
  subst this;exact .inl ⟨rfl,rfl⟩
 ·injection e with e1 e2 e3;subst e1;subst e3;refine .inr ⟨g,cap,cur,rfl,hb,hg,by omega,h4,h5,?_⟩;rw[Nat.mul_one] at h6⊢;rw[List.map_take,<-h6,List.take_take,Nat.min_eq_left hk]
end
section
open Dk
def leN(x y:Nm):Bool:=decide (x<=y)
def Dk.D.list(d:D):List Nm:=(d.now.map Prod.fst).mergeSort leN
theorem b0y(a b c:Nm)(h:leN a b=true)(k:leN b c=true):leN a c=true:=by
 unfold leN at *;simp at *;exact Std.le_trans h k
theorem b0z(a b:Nm):(leN a b||leN b a)=true:=by
 unfold leN;simp;exact Std.le_total
theorem b6R{l k:List Nm}(h:l.Perm k):l.mergeSort leN=k.mergeSort leN:=by
 refine List.Perm.eq_of_pairwise (le:=fun a b=>leN a b=true) ?_ (List.pairwise_mergeSort b0y b0z l) (List.pairwise_mergeSort b0y b0z k) ?_
 ·intro a b _ _ h1 h2;unfold leN at h1 h2;simp at h1 h2;exact Std.le_antisymm h1 h2
 ·exact(List.mergeSort_perm l leN).trans (h.trans (List.mergeSort_perm k leN).symm)
end
section
open Go.RowKit Go.Lib Go.Maps Dk
section look
variable{α β:Type}[DecidableEq α]
theorem a4n(l:List (α×β))(x y:α):D9 (a3p l x) y=if y=x then none else D9 l y:=by
 unfold D9 a3p
 induction l with
 | nil=>simp
 | cons p l ih=>
  by_cases h:p.1=x
  ·rw[List.filter_cons_of_neg (by simpa using h),ih];split
   ·rfl
   ·rename_i hy;rw[List.find?_cons_of_neg (by simp;exact fun e=>hy (e.symm.trans h))]
  ·rw[List.filter_cons_of_pos (by simpa using h)];by_cases hp:p.1=y
   ·rw[List.find?_cons_of_pos (by simpa using hp),List.find?_cons_of_pos (by simpa using hp),if_neg (fun e=>h (hp.trans e))]
   ·rw[List.find?_cons_of_neg (by simpa using hp),List.find?_cons_of_neg (by simpa using hp),ih]
theorem a0h(p:α×β)(l:List (α×β))(y:α):D9 (p::l) y=if p.1=y then some p.2 else D9 l y:=by
 unfold D9;by_cases h:p.1=y
 ·rw[List.find?_cons_of_pos (by simpa using h),if_pos h];rfl
 ·rw[List.find?_cons_of_neg (by simpa using h),if_neg h]
theorem b0v(y:α):D9 ([]:List (α×β)) y=none:=rfl
theorem a3j(l k:List (α×β))(y:α):D9 (l++k) y=(D9 l y).or (D9 k y):=by
 induction l with
 | nil=>rfl
 | cons p l ih=>
  rw[List.cons_append,a0h,a0h,ih];split<;>rfl
theorem O8{l:List (α×β)}{x:α}:D9 l x=none<->x∉l.map (·.1):=by
 induction l with
 | nil=>simp[b0v]
 | cons p l ih=>
  rw[a0h,List.map_cons,List.mem_cons];split
  ·rename_i h;simp[h]
  ·rename_i h;rw[ih];simp[Ne.symm h]
theorem a6t(l:List (α×β))(x:α)(y:β)(z:α):D9 (a05 l x y) z=if z=x then some y else D9 l z:=by
 unfold a05;split
 ·rename_i hx
  induction l with
  | nil=>simp at hx
  | cons p l ih=>
   rw[List.map_cons,a0h,a0h];by_cases hp:p.1=x
   ·rw[if_pos hp];by_cases hz:z=x
    ·subst hz;simp
    ·rw[if_neg (fun e=>hz e.symm),if_neg hz,if_neg (fun e=>hz (e.symm.trans hp))];by_cases hx':x∈l.map (·.1)
     ·rw[ih hx',if_neg hz]
     ·have:(l.map fun p=>if p.1=x then(x,y) else p)=l:=by
       conv=>rhs;rw[<-List.map_id l]
       apply List.map_congr_left;intro q hq;have:q.1≠x:=fun e=>hx' (e▸List.mem_map_of_mem hq);simp[this]
      rw[this]
   ·rw[if_neg hp];have hx':x∈l.map (·.1):=by
     rw[List.map_cons,List.mem_cons] at hx;rcases hx with h|h
     ·exact absurd h.symm hp
     ·exact h
    rw[ih hx'];by_cases hz:z=x
    ·subst hz;rw[if_neg hp];simp
    ·simp[hz]
 ·rename_i hx;rw[a3j,a0h,b0v];by_cases hz:z=x
  ·subst hz;rw[if_pos rfl,if_pos rfl,O8.2 hx];rfl
  ·rw[if_neg (Ne.symm hz),if_neg hz];simp
def a4o(l k:List (α×β)):Prop:=∀x,D9 l x=D9 k x
theorem b1t{l:List (α×β)}(hn:(l.map (·.1)).Nodup){p:α×β}(hp:p∈l):D9 l p.1=some p.2:=by
 obtain⟨j,hj⟩:=List.mem_iff_getElem?.1 hp;exact a8P hn hj
end look
namespace Dk
theorem a4I{l k:List (Nm×Nat)}(ms:List Mv)(h:a4o l k):a4o (D5 l ms) (D5 k ms):=by
 induction ms generalizing l k with
 | nil=>exact h
 | cons m ms ih=>
  refine ih (l:=match m.2 with|none=>a3p l m.1|some f=>a05 l m.1 f) (k:=match m.2 with|none=>a3p k m.1|some f=>a05 k m.1 f) ?_;intro x
  cases m.2 with
  | none=>show D9 (a3p l m.1) x=D9 (a3p k m.1) x;rw[a4n,a4n,h x]
  | some f=>show D9 (a05 l m.1 f) x=D9 (a05 k m.1 f) x;rw[a6t,a6t,h x]
theorem a0Z{l:List (Nm×Nat)}(ms:List Mv)(h:(l.map (·.1)).Nodup):((D5 l ms).map (·.1)).Nodup:=by
 induction ms generalizing l with
 | nil=>exact h
 | cons m ms ih=>
  refine ih (l:=match m.2 with|none=>a3p l m.1|some f=>a05 l m.1 f) ?_
  cases m.2 with
  | none=>exact b4v h _
  | some f=>exact a5e h _ _
theorem a3I{l:List (Nm×Nat)}(ms:List (List Mv))(h:(l.map (·.1)).Nodup):((ms.foldl D5 l).map (·.1)).Nodup:=by
 induction ms generalizing l with
 | nil=>exact h
 | cons m ms ih=>exact ih (a0Z m h)
def D.file(d:D)(n:Nm):Option (List UInt8):=(D9 d.now n).map fun x=>(d.node x).data
abbrev Fl:=List (Nm×List UInt8)
def D.files(d:D):Fl:=d.list.map fun n=>(n,(d.file n).getD [])
theorem a2P(d:D)(n:Nm):n∈d.list<->n∈d.now.map (·.1):=List.mem_mergeSort
theorem a8v{d:D}(h:(d.now.map (·.1)).Nodup):d.list.Nodup:=((List.mergeSort_perm _ _).nodup_iff).2 h
theorem b2C(d:D):d.files.map (·.1)=d.list:=by unfold D.files;rw[List.map_map];exact List.map_id _
theorem a4V(d:D)(n:Nm):D9 d.files n=d.file n:=by
 cases e:d.file n with
 | none=>
  rw[O8,b2C,a2P,<-O8];unfold D.file at e
  exact Option.map_eq_none_iff.1 e
 | some b=>
  have hm:n∈d.list:=by
   rw[a2P];exact Classical.byContradiction fun h=>by
    unfold D.file at e;rw[O8.2 h] at e;cases e
  unfold D.files;generalize d.list=l at hm
  induction l with
  | nil=>cases hm
  | cons m l ih=>
   rw[List.map_cons,a0h];by_cases h:m=n
   ·rw[if_pos h,h,e];rfl
   ·rw[if_neg h];refine ih ?_;rcases List.mem_cons.1 hm with h'|h'
    ·exact absurd h'.symm h
    ·exact h'
def D.Calm(d:D):Prop:=d.wait=0/\d.bad=0
theorem D.Calm.fails{d:D}(h:d.Calm):d.fails=(false,d):=by
 unfold D.fails;rw[if_neg (by have:=h.1;omega),if_neg (by have:=h.2;omega)]
theorem D.Calm.find{d:D}(h:d.Calm)(n:Nm):d.find n=match D9 d.now n with|none=>(none,.file 11 n,d)|some x=>(some x,.ok,d):=by
 unfold D.find;rw[h.fails];rfl
theorem D.Calm.size{d:D}(h:d.Calm)(n:Nm):d.size n=match d.file n with|none=>(0,.file 11 n,d)|some b=>(b.length,.ok,d):=by
 unfold D.size D.file;rw[h.find];cases D9 d.now n<;>rfl
theorem b2D(l:List UInt8):part l 0 l.length=l:=by unfold part;simp
theorem D.Calm.readAt{d:D}(h:d.Calm)(n:Nm)(i k:Int):d.readAt n i k=match d.file n with|none=>([],.file 11 n,d)|some b=>(part b i k,.ok,d):=by
 unfold D.readAt D.file;rw[h.find];cases D9 d.now n<;>rfl
theorem D.Calm.remove{d:D}(h:d.Calm){n:Nm}(hn:n∈d.now.map (·.1)):d.remove n=(.ok,d.mv [(n,none)]):=by
 unfold D.remove;rw[h.find]
 cases e:D9 d.now n with
 | none=>exact absurd hn (O8.1 e)
 | some x=>rfl
theorem D.Calm.mv{d:D}(h:d.Calm)(l:List Mv):(d.mv l).Calm:=h
theorem D.Calm.syncDir{d:D}(h:d.Calm):d.syncDir=(.ok,{d with safe:=d.moves.foldl D5 d.safe,moves:=[]}):=by
 unfold D.syncDir;rw[h.fails];rfl
def H9:Nm:=[109,97,110,105,102,101,115,116]
def G8:Nm:=[100,97,116,97,45]
def a8w:Nm:=[104,105,110,116,45]
def digit(k:Nat):UInt8:=UInt8.ofNat (48+k%10)
def D7(kind:Nm)(k:Nat):Nm:=kind++[digit (k/100000),digit (k/10000),digit (k/1000),digit (k/100),digit (k/10),digit k]
def c5k(b:UInt8):Bool:=decide (48<=b.toNat/\b.toNat<=57)
def c6r(kind n:Nm):Bool:=decide (n.length=kind.length+6)&&(decide (n.take kind.length=kind)&&(n.drop kind.length).all c5k)
def c2k(ids:List Int)(n:Nm):Bool:=ids.any fun k=>decide (D7 G8 k.toNat=n)
def a2Q(ids:List Int)(n:Nm):Bool:=decide (n=H9)||(c2k ids n||c6r a8w n)
def D.whole(d:D)(n:Nm):List UInt8×Er×D:=
 match d.size n with
 | (k,.ok,d1)=>d1.readAt n 0 k
 | (_,e,d1)=>([],e,d1)
def D.readMan(d:D):Option (Nat×List Int)×Er×D:=
 match d.whole H9 with
 | (b,.ok,d1)=>(match Go.Proofs.YtgpbhjjajpbeeaaGreatDoor.readMan b with|some r=>(some r,.ok,d1)|none=>(none,.num 6,d1))
 | (_,e,d1)=>(none,if e.code=11 then .num 5 else e,d1)
def D.removeAll(d:D):List Nm->Er×D
 | []=>(.ok,d)
 | n::l=>match d.remove n with|(.ok,d1)=>d1.removeAll l|(e,d1)=>(e,d1)
def D.sweep(d:D)(ids:List Int):Er×D:=
 match d.removeAll (d.list.filter fun n=>!a2Q ids n) with
 | (.ok,d1)=>d1.syncDir
 | (e,d1)=>(e,d1)
def D.clean(d:D):Er×D:=
 match d.readMan with
 | (some r,_,d1)=>d1.sweep r.2
 | (none,e,d1)=>(e,d1)
theorem D.Calm.whole{d:D}(h:d.Calm)(n:Nm):d.whole n=match d.file n with|none=>([],.file 11 n,d)|some b=>(b,.ok,d):=by
 unfold D.whole;rw[h.size]
 cases e:d.file n with
 | none=>rfl
 | some b=>simp only[h.readAt,e,b2D]
theorem D.Calm.readMan{d:D}(h:d.Calm):d.readMan=match d.file H9 with|none=>(none,.num 5,d)|some b=>(match Go.Proofs.YtgpbhjjajpbeeaaGreatDoor.readMan b with|some r=>(some r,.ok,d)|none=>(none,.num 6,d)):=by
 unfold D.readMan;rw[h.whole]
 cases e:d.file H9 with
 | none=>rfl
 | some b=>rfl
theorem D.Calm.removeAll{d:D}(h:d.Calm)(l:List Nm)(hn:l.Nodup)(hl:∀n∈l,n∈d.now.map (·.1)):
 d.removeAll l=(.ok,{d with now:=D5 d.now (l.map fun n=>(n,none)),moves:=d.moves++l.map fun n=>[(n,none)]}):=by
 induction l generalizing d with
 | nil=>simp[D.removeAll,D5]
 | cons n l ih=>
  rw[List.nodup_cons] at hn;have hm:=hl n (by simp);unfold D.removeAll;rw[h.remove hm];show(d.mv [(n,none)]).removeAll l=_;rw[ih (h.mv _) hn.2 fun m hm'=>?_]
  ·simp[D.mv,D5]
  ·have h1:=hl m (by simp[hm']);have hne:m≠n:=fun e=>hn.1 (e▸hm');show m∈(D5 d.now [(n,none)]).map (·.1);refine Classical.byContradiction fun hc=>?_;have e:D9 (D5 d.now [(n,none)]) m=none:=O8.2 hc;have e2:D9 (a3p d.now n) m=none:=e;rw[a4n,if_neg hne,O8] at e2;exact e2 h1
theorem b6N(l:List (Nm×Nat))(ns:List Nm)(n:Nm):D9 (D5 l (ns.map fun n=>(n,none))) n=if n∈ns then none else D9 l n:=by
 induction ns generalizing l with
 | nil=>simp[D5]
 | cons m ns ih=>
  show D9 (D5 (a3p l m) (ns.map fun n=>(n,none))) n=_;rw[ih,a4n];by_cases h1:n∈ns
  ·simp[h1]
  ·by_cases h2:n=m
   ·simp[h2]
   ·simp[h1,h2]
theorem b2E(l:List (Nm×Nat))(ns:List Nm):(ns.map fun n=>[(n,(none:Option Nat))]).foldl D5 l=D5 l (ns.map fun n=>(n,none)):=by
 induction ns generalizing l with
 | nil=>rfl
 | cons m ns ih=>
  show List.foldl D5 (D5 l [(m,none)]) _=_;rw[ih];rfl
structure D.Safe(d:D):Prop where
 calm:d.Calm
 moves:d.moves=[]
 same:a4o d.safe d.now
 nodup:(d.now.map (·.1)).Nodup
 nodup':(d.safe.map (·.1)).Nodup
 nodes:∀p∈d.safe,(d.node p.2).safe=(d.node p.2).data.length
theorem D.Safe.sweep{d:D}(h:d.Safe)(ids:List Int):
 ∃e:D,d.sweep ids=(.ok,e)/\e.Safe/\(∀n,e.file n=if a2Q ids n=true then d.file n else none)/\e.ids=d.ids/\e.room=d.room/\e.node=d.node:=by
 obtain⟨l,hl⟩:∃l,d.list.filter (fun n=>!a2Q ids n)=l:=⟨_,rfl⟩;have hmem:∀n,n∈l<->n∈d.now.map (·.1)/\a2Q ids n=false:=by
  intro n;rw[<-hl,List.mem_filter,a2P];simp
 have hnd:l.Nodup:=hl▸(a8v h.nodup).filter _;have hr:=h.calm.removeAll l hnd fun n hn=>((hmem n).1 hn).1;have hE:d.sweep ids=(.ok,{d with now:=D5 d.now (l.map fun n=>(n,none)),safe:=D5 d.safe (l.map fun n=>(n,none)),moves:=[]}):=by
  unfold D.sweep;rw[hl,hr];show D.syncDir _=_;rw[D.Calm.syncDir (d:={d with now:=D5 d.now (l.map fun n=>(n,none)),moves:=d.moves++l.map fun n=>[(n,none)]}) h.calm];simp[h.moves,b2E]
 refine⟨_,hE,⟨h.calm,rfl,a4I _ h.same,a0Z _ h.nodup,a0Z _ h.nodup',?_⟩,?_,rfl,rfl,rfl⟩
 ·intro p hp;refine h.nodes p ?_;rcases a03 hp with hp|⟨x,hx,e⟩
  ·exact hp
  ·obtain⟨n,_,rfl⟩:=List.mem_map.1 hx;cases e
 ·intro n;show(D9 (D5 d.now (l.map fun n=>(n,none))) n).map _=_;rw[b6N];by_cases hk:a2Q ids n=true
  ·rw[if_neg (fun hn=>by rw[((hmem n).1 hn).2] at hk;cases hk),if_pos hk];rfl
  ·rw[if_neg hk];by_cases hn:n∈l
   ·rw[if_pos hn];rfl
   ·rw[if_neg hn];have:n∉d.now.map (·.1):=fun hc=>hn ((hmem n).2 ⟨hc,by simpa using hk⟩);rw[O8.2 this];rfl
end Dk
end
section
open Go.RowKit Go.Lib Go.Maps Dk
namespace Dk
structure D.Built(d:D)(k:Nat):Prop where
 calm:d.Calm
 nodup:(d.now.map (·.1)).Nodup
 safe:d.safe=[]
 same:a4o (d.moves.foldl D5 []) d.now
 synced:∀x∈d.ids,(d.node x).safe=(d.node x).data.length
 bound:∀x∈d.ids,(d.node x).data.length<=1099511627776
 room:d.room=1099511627776
 named:∀p∈d.now,p.2∈d.ids
 names:∀p∈d.now,p.1.length<=1000000
 len:d.now.length<=k
 mlen:d.moves.length<=k
 mnames:∀l∈d.moves,l.length<=1000000/\∀m∈l,m.1.length<=1000000
theorem b9k{α β:Type}[DecidableEq α](l:List (α×β))(x:α)(y:β):(a05 l x y).length<=l.length+1:=by
 unfold a05;split<;>simp
theorem D.Built.empty:(⟨[],[],[],1099511627776,0,0,[],fun _=>⟨[],0⟩⟩:D).Built 0:=
 ⟨⟨rfl,rfl⟩,by simp,rfl,fun _=>rfl,by simp,by simp,rfl,by simp,by simp,by simp,by simp,by simp⟩
theorem D.Built.more{d:D}{k m:Nat}(h:d.Built k)(hk:k<=m):d.Built m:=
 {h with len:=Nat.le_trans h.len hk,mlen:=Nat.le_trans h.mlen hk}
theorem D.Built.create{d:D}{k:Nat}(h:d.Built k){n:Nm}{x:Nat}(hx:x∉d.ids)(hn:n.length<=1000000):(d.create n x).2.Built (k+1):=by
 have e1:d.fails=(false,d):=h.calm.fails;unfold D.create;rw[e1];dsimp only;rw[if_neg (by simp)];by_cases hs:(D9 d.now n).isSome=true
 ·rw[if_pos hs];exact h.more (Nat.le_succ k)
 ·rw[if_neg hs];have hu:∀y∈d.ids,upd d.node x ⟨[],0⟩ y=d.node y:=fun y hy=>by
   unfold upd;rw[if_neg (show ¬y=x from fun e=>hx (e▸hy))]
  have hux:upd d.node x ⟨[],0⟩ x=⟨[],0⟩:=by unfold upd;rw[if_pos rfl]
  refine⟨h.calm,a0Z _ h.nodup,h.safe,?_,?_,?_,h.room,?_,?_,?_,?_,?_⟩
  ·show a4o ((d.moves++[[(n,some x)]]).foldl D5 []) (D5 d.now [(n,some x)]);rw[List.foldl_append];exact a4I _ h.same
  ·intro y hy;show(upd d.node x ⟨[],0⟩ y).safe=(upd d.node x ⟨[],0⟩ y).data.length;rcases List.mem_append.1 hy with hy|hy
   ·rw[hu y hy];exact h.synced y hy
   ·simp at hy;subst hy;rw[hux];rfl
  ·intro y hy;show(upd d.node x ⟨[],0⟩ y).data.length<=_;rcases List.mem_append.1 hy with hy|hy
   ·rw[hu y hy];exact h.bound y hy
   ·simp at hy;subst hy;rw[hux];simp
  ·intro p hp;show p.2∈d.ids++[x];rcases a5E (show p∈a05 d.now n x from hp) with rfl|hp
   ·simp
   ·exact List.mem_append.2 (.inl (h.named p hp))
  ·intro p hp;rcases a5E (show p∈a05 d.now n x from hp) with rfl|hp
   ·exact hn
   ·exact h.names p hp
  ·have:=b9k d.now n x;have:=h.len;show(a05 d.now n x).length<=k+1;omega
  ·show(d.moves++[[(n,some x)]]).length<=k+1;have:=h.mlen;simp;omega
  ·intro l hl;rcases List.mem_append.1 (show l∈d.moves++[[(n,some x)]] from hl) with hl|hl
   ·exact h.mnames l hl
   ·simp at hl;subst hl;exact⟨by simp,fun m hm=>by simp at hm;subst hm;exact hn⟩
theorem D.Calm.append{d:D}(h:d.Calm)(n:Nm)(b:List UInt8):d.append n b=match D9 d.now n with|none=>(.file 11 n,d)|some x=>if d.room - d.used<b.length then(.file 10 n,d) else(.ok,d.setNode x {d.node x with data:=(d.node x).data++b}):=by
 unfold D.append;rw[h.find];cases D9 d.now n<;>rfl
theorem D.Calm.sync{d:D}(h:d.Calm)(n:Nm):d.sync n=match D9 d.now n with|none=>(.file 11 n,d)|some x=>(.ok,d.setNode x {d.node x with safe:=(d.node x).data.length}):=by
 unfold D.sync;rw[h.find];cases D9 d.now n<;>rfl
theorem c4b{α:Type}{f:α->Nat}{l:List α}{p:α}(h:p∈l):f p<=(l.map f).sum:=by
 induction l with
 | nil=>cases h
 | cons q l ih=>
  rw[List.map_cons,List.sum_cons];rcases List.mem_cons.1 h with rfl|h
  ·omega
  ·have:=ih h;omega
theorem c2h{d:D}{p:Nm×Nat}(hp:p∈d.now):(d.node p.2).data.length<=d.used:=by
 unfold D.used;exact c4b (f:=fun p=>(d.node p.2).data.length) hp
theorem D.Built.node{d:D}{k:Nat}(h:d.Built k){x:Nat}{y:Nd}(hy:y.safe=y.data.length)(hb:y.data.length<=1099511627776):(d.setNode x y).Built k:=by
 refine⟨h.calm,h.nodup,h.safe,h.same,?_,?_,h.room,h.named,h.names,h.len,h.mlen,h.mnames⟩
 ·intro z hz;show(upd d.node x y z).safe=(upd d.node x y z).data.length;unfold upd;split
  ·exact hy
  ·exact h.synced z hz
 ·intro z hz;show(upd d.node x y z).data.length<=_;unfold upd;split
  ·exact hb
  ·exact h.bound z hz
theorem D.Built.sync{d:D}{k:Nat}(h:d.Built k)(n:Nm):(d.sync n).2.Built k:=by
 rw[h.calm.sync]
 cases e:D9 d.now n with
 | none=>exact h
 | some x=>exact h.node rfl (h.bound x (h.named _ (a0y e)))
theorem a7P(d:D)(x:Nat)(y z:Nd):(d.setNode x y).setNode x z=d.setNode x z:=by
 unfold D.setNode;congr 1
 funext i
 show upd (upd d.node x y) x z i=upd d.node x z i;unfold upd;split<;>rfl
theorem D.Built.appendSync{d:D}{k:Nat}(h:d.Built k)(n:Nm)(b:List UInt8):((d.append n b).2.sync n).2.Built k:=by
 rw[h.calm.append]
 cases e:D9 d.now n with
 | none=>exact h.sync n
 | some x=>
  dsimp only;by_cases hr:d.room - d.used<b.length
  ·rw[if_pos hr];exact h.sync n
  ·rw[if_neg hr];have hc:(d.setNode x {d.node x with data:=(d.node x).data++b}).Calm:=h.calm;rw[hc.sync];have e':D9 (d.setNode x {d.node x with data:=(d.node x).data++b}).now n=some x:=e;rw[e'];dsimp only;rw[a7P];have hu:(d.setNode x {d.node x with data:=(d.node x).data++b}).node x={d.node x with data:=(d.node x).data++b}:=by
    show upd d.node x _ x=_;unfold upd;rw[if_pos rfl]
   refine h.node ?_ ?_
   ·rw[hu]
   ·rw[hu];show((d.node x).data++b).length<=_;rw[List.length_append];have:=c2h (a0y e);have:=h.room;dsimp only at *;omega
theorem D.Built.syncDir{d:D}{k:Nat}(h:d.Built k):∃e:D,d.syncDir=(.ok,e)/\e.Safe/\e.now=d.now/\e.ids=d.ids/\e.node=d.node:=by
 refine⟨_,h.calm.syncDir,⟨h.calm,rfl,?_,h.nodup,?_,?_⟩,rfl,rfl,rfl⟩
 ·show a4o (d.moves.foldl D5 d.safe) d.now;rw[h.safe];exact h.same
 ·show((d.moves.foldl D5 d.safe).map (·.1)).Nodup;rw[h.safe];exact a3I _ (by simp)
 ·intro p hp;have hp':p∈d.moves.foldl D5 []:=by
   have:p∈d.moves.foldl D5 d.safe:=hp;rwa [h.safe] at this
  have hn:((d.moves.foldl D5 []).map (·.1)).Nodup:=a3I _ (by simp);have e1:=b1t hn hp';rw[h.same] at e1;exact h.synced _ (h.named _ (a0y e1))
end Dk
end
section
open Go.RowKit Go.Extern.Stop Go.Stop Go.Extern
theorem methodKind(h:Value)(w:World):(Go.method 495 275 (.agg #[h]) "Kind").run Tryz.prog w=.ok (248,h) w:=by kernel_rfl
theorem methodElem(h:Value)(w:World):(Go.method 495 275 (.agg #[h]) "Elem").run Tryz.prog w=.ok (261,.agg #[h]) w:=by kernel_rfl
theorem methodImplements(h:Value)(w:World):(Go.method 495 275 (.agg #[h]) "Implements").run Tryz.prog w=.ok (262,.agg #[h]) w:=by kernel_rfl
theorem methodAssignableTo(h:Value)(w:World):(Go.method 495 275 (.agg #[h]) "AssignableTo").run Tryz.prog w=.ok (259,.agg #[h]) w:=by kernel_rfl
theorem rlm(z:Sem Value)(f:TypeId->Addr->Nat->Nat->Sem Value)(v:Value):
 ReflectliteValue.method z f #[v]=(do match <-ReflectliteValue.parts v with|none=>z|some (t,a,fl)=>f t a fl (fl%32)):=rfl
theorem rls(v x:Value):ReflectliteValue.set #[v,x]=(do
 let (some (dst,a,fl),some (src,b,_)):=(<-ReflectliteValue.parts v,<-ReflectliteValue.parts x)
  | unsupported (.noEntry "extern/(internal/reflectlite.Value).Set.zeroValue")
 if fl/ReflectliteValue.flagAddr%2==0 then unsupported (.noEntry "extern/(internal/reflectlite.Value).Set.unaddressable")
 let val <-loadVar src b
 if <-Rtype.directlyAssignable dst src then storeVar dst a val
 else if <-Rtype.implements dst src then
  if (<-Rtype.kind src)==20 then
   match val with
   | .nilIface=>unsupported (.noEntry "extern/reflectlite: a nil value of one interface type handed on as a value of another")
   | _=>storeVar dst a val
  else storeVar dst a (.iface src val)
 else panicString ("reflectlite.Set: value of type "++(<-Rtype.spelt src)++ " is not assignable to type "++(<-Rtype.spelt dst))
 pure (.tuple #[])):=rfl
theorem b0o(t:Addr)(w:World):(ReflectliteValue.unpack (.iface 162 (.pointer (some t)))).run Tryz.prog w
 = .ok (.agg #[.pointer (some ⟨7,162,none⟩),.pointer (some ⟨w.heap.size,0,none⟩),.int .u64 150]) (w.alloc (.cells #[.pointer (some t)] 162)):=by kernel_rfl
theorem b8U(a:Addr)(w:World):(ReflectliteValue.methodAny (ReflectliteValue.valueError "reflectlite.Value.Type" 0) (fun t _ _ _=>ReflectliteType.toType t) #[.agg #[.pointer (some ⟨7,162,none⟩),.pointer (some a),.int .u64 150]]).run Tryz.prog w
 = .ok (.iface 275 (.agg #[.pointer (some ⟨7,162,none⟩)])) w:=by kernel_rfl
theorem b8V(w:World):((ReflectliteType.abiMethod fun t=>Functor.map (fun a:Nat=>Value.int IntKind.u8 (a:Int)) (Rtype.kind t)) #[.pointer (some ⟨7,162,none⟩)]).run Tryz.prog w=.ok (.int .u8 22) w:=by kernel_rfl
theorem b8W(w:World):((ReflectliteType.abiMethod fun t=>Functor.map (fun a:Nat=>Value.int IntKind.u8 (a:Int)) (Rtype.kind t)) #[.pointer (some ⟨7,132,none⟩)]).run Tryz.prog w=.ok (.int .u8 22) w:=by kernel_rfl
theorem b5L(a:Addr)(w:World):(ReflectliteValue.parts (.agg #[.pointer (some ⟨7,162,none⟩),.pointer (some a),.int .u64 150])).run Tryz.prog w=.ok (some (162,a,150)) w:=by kernel_rfl
theorem b5M(a p:Addr)(W:World)(ha:W.cell? a=some (.pointer (some p))):
 (ReflectliteValue.method (ReflectliteValue.valueError "reflectlite.Value.IsNil" 0) ReflectliteValue.isNil #[.agg #[.pointer (some ⟨7,162,none⟩),.pointer (some a),.int .u64 150]]).run Tryz.prog W=.ok (.bool false) W:=by
 rw[rlm];simp only[Sem.run_bind,b5L,Result.andThen];simp[ReflectliteValue.isNil,loadVar,isAgg,underlying,Tryz.underlying162,ha,Result.andThen]
theorem b8X(w:World):(ReflectliteType.method ReflectliteType.elem #[.agg #[.pointer (some ⟨7,162,none⟩)]]).run Tryz.prog w=.ok (.iface 275 (.agg #[.pointer (some ⟨7,132,none⟩)])) w:=by kernel_rfl
theorem a5u(w:World):(ReflectliteType.relation "Implements" ReflectliteType.implements_ #[.agg #[.pointer (some ⟨7,132,none⟩)],.iface 275 (.agg #[.pointer (some ⟨7,34,none⟩)])]).run Tryz.prog w=.ok (.bool true) w:=by kernel_rfl
theorem b8Y(v:Value)(w:World):(ReflectliteType.typeOf #[.iface 132 v]).run Tryz.prog w=.ok (.iface 275 (.agg #[.pointer (some ⟨7,132,none⟩)])) w:=by kernel_rfl
theorem b1j(w:World):(ReflectliteType.relation "AssignableTo" ReflectliteType.assignableTo #[.agg #[.pointer (some ⟨7,132,none⟩)],.iface 275 (.agg #[.pointer (some ⟨7,132,none⟩)])]).run Tryz.prog w=.ok (.bool true) w:=by kernel_rfl
theorem b6x(e:Addr)(w:World):(ReflectliteValue.unpack (.iface 132 (.pointer (some e)))).run Tryz.prog w
 = .ok (.agg #[.pointer (some ⟨7,132,none⟩),.pointer (some ⟨w.heap.size,0,none⟩),.int .u64 150]) (w.alloc (.cells #[.pointer (some e)] 132)):=by kernel_rfl
theorem b8Z(w:World):(Rtype.elem? 162).run Tryz.prog w=.ok (some 132) w:=by kernel_rfl
theorem c6o(p:Addr)(w:World):(ReflectliteValue.mk 132 p ReflectliteValue.flagAddr).run Tryz.prog w=.ok (.agg #[.pointer (some ⟨7,132,none⟩),.pointer (some p),.int .u64 406]) w:=by kernel_rfl
theorem c3S(a p:Addr)(W:World)(ha:W.cell? a=some (.pointer (some p))):
 (ReflectliteValue.method (ReflectliteValue.valueError "reflectlite.Value.Elem" 0) ReflectliteValue.elem #[.agg #[.pointer (some ⟨7,162,none⟩),.pointer (some a),.int .u64 150]]).run Tryz.prog W
  = .ok (.agg #[.pointer (some ⟨7,132,none⟩),.pointer (some p),.int .u64 406]) W:=by
 rw[rlm];simp only[Sem.run_bind,b5L,Result.andThen];simp[ReflectliteValue.elem,loadVar,isAgg,underlying,Tryz.underlying162,ha,Result.andThen,b8Z,c6o]
theorem b80(a:Addr)(w:World):(ReflectliteValue.parts (.agg #[.pointer (some ⟨7,132,none⟩),.pointer (some a),.int .u64 406])).run Tryz.prog w=.ok (some (132,a,406)) w:=by kernel_rfl
theorem c1T(a:Addr)(w:World):(ReflectliteValue.parts (.agg #[.pointer (some ⟨7,132,none⟩),.pointer (some a),.int .u64 150])).run Tryz.prog w=.ok (some (132,a,150)) w:=by kernel_rfl
theorem b81(w:World):(Rtype.directlyAssignable 132 132).run Tryz.prog w=.ok true w:=by kernel_rfl
theorem c5h(ta b:Addr)(e:Addr)(old:Value)(W:World)(hb:W.cell? b=some (.pointer (some e)))(ht:W.cell? ta=some old)(hf:W.frozen? ta=false):
 (ReflectliteValue.set #[.agg #[.pointer (some ⟨7,132,none⟩),.pointer (some ta),.int .u64 406],.agg #[.pointer (some ⟨7,132,none⟩),.pointer (some b),.int .u64 150]]).run Tryz.prog W
  = .ok (.tuple #[]) (W.setCell ta (.pointer (some e))):=by
 rw[rls];simp only[Sem.run_bind,b80,c1T,Result.andThen];simp[ReflectliteValue.flagAddr,loadVar,isAgg,underlying,Tryz.underlying132,hb,Result.andThen,b81,storeVar,Value.cells,storeCells,Addr.add];rw[run_store Tryz.prog W ta _ _ (by rfl)];simp[ht,hf]
theorem b6y(t:Addr)(w:World):(ReflectliteValue.unpack (.iface 163 (.pointer (some t)))).run Tryz.prog w
 = .ok (.agg #[.pointer (some ⟨7,163,none⟩),.pointer (some ⟨w.heap.size,0,none⟩),.int .u64 150]) (w.alloc (.cells #[.pointer (some t)] 163)):=by kernel_rfl
theorem c3T(a:Addr)(w:World):(ReflectliteValue.methodAny (ReflectliteValue.valueError "reflectlite.Value.Type" 0) (fun t _ _ _=>ReflectliteType.toType t) #[.agg #[.pointer (some ⟨7,163,none⟩),.pointer (some a),.int .u64 150]]).run Tryz.prog w
 = .ok (.iface 275 (.agg #[.pointer (some ⟨7,163,none⟩)])) w:=by kernel_rfl
theorem c3V(w:World):((ReflectliteType.abiMethod fun t=>Functor.map (fun a:Nat=>Value.int IntKind.u8 (a:Int)) (Rtype.kind t)) #[.pointer (some ⟨7,163,none⟩)]).run Tryz.prog w=.ok (.int .u8 22) w:=by kernel_rfl
theorem c3W(w:World):((ReflectliteType.abiMethod fun t=>Functor.map (fun a:Nat=>Value.int IntKind.u8 (a:Int)) (Rtype.kind t)) #[.pointer (some ⟨7,37,none⟩)]).run Tryz.prog w=.ok (.int .u8 2) w:=by kernel_rfl
theorem b5N(a:Addr)(w:World):(ReflectliteValue.parts (.agg #[.pointer (some ⟨7,163,none⟩),.pointer (some a),.int .u64 150])).run Tryz.prog w=.ok (some (163,a,150)) w:=by kernel_rfl
theorem c1V(a p:Addr)(W:World)(ha:W.cell? a=some (.pointer (some p))):
 (ReflectliteValue.method (ReflectliteValue.valueError "reflectlite.Value.IsNil" 0) ReflectliteValue.isNil #[.agg #[.pointer (some ⟨7,163,none⟩),.pointer (some a),.int .u64 150]]).run Tryz.prog W=.ok (.bool false) W:=by
 rw[rlm];simp only[Sem.run_bind,b5N,Result.andThen];simp[ReflectliteValue.isNil,loadVar,isAgg,underlying,Tryz.underlying163,ha,Result.andThen]
theorem c3X(w:World):(ReflectliteType.method ReflectliteType.elem #[.agg #[.pointer (some ⟨7,163,none⟩)]]).run Tryz.prog w=.ok (.iface 275 (.agg #[.pointer (some ⟨7,37,none⟩)])) w:=by kernel_rfl
theorem b1k(w:World):(ReflectliteType.relation "Implements" ReflectliteType.implements_ #[.agg #[.pointer (some ⟨7,37,none⟩)],.iface 275 (.agg #[.pointer (some ⟨7,34,none⟩)])]).run Tryz.prog w=.ok (.bool true) w:=by kernel_rfl
theorem a5v(v:Value)(w:World):(ReflectliteType.typeOf #[.iface 37 v]).run Tryz.prog w=.ok (.iface 275 (.agg #[.pointer (some ⟨7,37,none⟩)])) w:=by kernel_rfl
theorem b1l(w:World):(ReflectliteType.relation "AssignableTo" ReflectliteType.assignableTo #[.agg #[.pointer (some ⟨7,37,none⟩)],.iface 275 (.agg #[.pointer (some ⟨7,37,none⟩)])]).run Tryz.prog w=.ok (.bool true) w:=by kernel_rfl
theorem b6z(n:Int)(w:World):(ReflectliteValue.unpack (.iface 37 (.int .i64 n))).run Tryz.prog w
 = .ok (.agg #[.pointer (some ⟨7,37,none⟩),.pointer (some ⟨w.heap.size,0,none⟩),.int .u64 130]) (w.alloc (.cells #[.int .i64 n] 37)):=by kernel_rfl
theorem b82(w:World):(Rtype.elem? 163).run Tryz.prog w=.ok (some 37) w:=by kernel_rfl
theorem c6p(p:Addr)(w:World):(ReflectliteValue.mk 37 p ReflectliteValue.flagAddr).run Tryz.prog w=.ok (.agg #[.pointer (some ⟨7,37,none⟩),.pointer (some p),.int .u64 386]) w:=by kernel_rfl
theorem c3Y(a p:Addr)(W:World)(ha:W.cell? a=some (.pointer (some p))):
 (ReflectliteValue.method (ReflectliteValue.valueError "reflectlite.Value.Elem" 0) ReflectliteValue.elem #[.agg #[.pointer (some ⟨7,163,none⟩),.pointer (some a),.int .u64 150]]).run Tryz.prog W
  = .ok (.agg #[.pointer (some ⟨7,37,none⟩),.pointer (some p),.int .u64 386]) W:=by
 rw[rlm];simp only[Sem.run_bind,b5N,Result.andThen];simp[ReflectliteValue.elem,loadVar,isAgg,underlying,Tryz.underlying163,ha,Result.andThen,b82,c6p]
theorem b83(a:Addr)(w:World):(ReflectliteValue.parts (.agg #[.pointer (some ⟨7,37,none⟩),.pointer (some a),.int .u64 386])).run Tryz.prog w=.ok (some (37,a,386)) w:=by kernel_rfl
theorem c1W(a:Addr)(w:World):(ReflectliteValue.parts (.agg #[.pointer (some ⟨7,37,none⟩),.pointer (some a),.int .u64 130])).run Tryz.prog w=.ok (some (37,a,130)) w:=by kernel_rfl
theorem b84(w:World):(Rtype.directlyAssignable 37 37).run Tryz.prog w=.ok true w:=by kernel_rfl
theorem c5i(ta b:Addr)(n:Int)(old:Value)(W:World)(hb:W.cell? b=some (.int .i64 n))(ht:W.cell? ta=some old)(hf:W.frozen? ta=false):
 (ReflectliteValue.set #[.agg #[.pointer (some ⟨7,37,none⟩),.pointer (some ta),.int .u64 386],.agg #[.pointer (some ⟨7,37,none⟩),.pointer (some b),.int .u64 130]]).run Tryz.prog W
  = .ok (.tuple #[]) (W.setCell ta (.int .i64 n)):=by
 rw[rls];simp only[Sem.run_bind,b83,c1W,Result.andThen];simp[ReflectliteValue.flagAddr,loadVar,isAgg,underlying,Tryz.underlying37,hb,Result.andThen,b84,storeVar,Value.cells,storeCells,Addr.add];rw[run_store Tryz.prog W ta _ _ (by rfl)];simp[ht,hf]
theorem b1m(w:World):(ReflectliteType.relation "AssignableTo" ReflectliteType.assignableTo #[.agg #[.pointer (some ⟨7,37,none⟩)],.iface 275 (.agg #[.pointer (some ⟨7,132,none⟩)])]).run Tryz.prog w=.ok (.bool false) w:=by kernel_rfl
end
section
open Go.RowKit Go.Extern.Stop Go.Stop Go.Extern
theorem c1X(e:Addr)(t:Addr)(old:Value)(w:World)(hg:w.cell? ⟨0,0,none⟩=some (.iface 275 (.agg #[.pointer (some ⟨7,34,none⟩)])))(ht0:w.cell? t=some old)(hf0:w.frozen? t=false):
 Calls Tryz.prog 65 #[.iface 132 (.pointer (some e)),.iface 162 (.pointer (some t))] w fun ev w'=>ev=.returned (.bool true)/\w'=((((w.alloc (.cells #[.pointer (some t)] 162)).alloc (.cells #[.pointer (some ⟨7,162,none⟩),.pointer (some ⟨w.heap.size,0,none⟩),.int .u64 150] 228)).alloc (.cells #[.pointer (some ⟨7,162,none⟩),.pointer (some ⟨w.heap.size,0,none⟩),.int .u64 150] 228)).alloc (.cells #[.pointer (some e)] 132)).setCell t (.pointer (some e)):=by
 have h1:=@run_callFunc_extern Tryz.prog 119 _ (fun args=>ReflectliteValue.unpack (args.getD 0 (.tuple #[]))) Tryz.func119 (by kernel_rfl) (by kernel_rfl) (by kernel_rfl) (by kernel_rfl);have h2:=@run_callFunc_extern Tryz.prog 120 _ (ReflectliteValue.methodAny (ReflectliteValue.valueError "reflectlite.Value.Type" 0) (fun t _ _ _=>ReflectliteType.toType t)) Tryz.func120 (by kernel_rfl) (by kernel_rfl) (by kernel_rfl) (by kernel_rfl);have h3:=@run_callFunc_extern Tryz.prog 121 _ (ReflectliteValue.method (ReflectliteValue.valueError "reflectlite.Value.IsNil" 0) ReflectliteValue.isNil) Tryz.func121 (by kernel_rfl) (by kernel_rfl) (by kernel_rfl) (by kernel_rfl);have h4:=@run_callFunc_extern Tryz.prog 248 _ (ReflectliteType.abiMethod fun t=>do pure (.int .u8 (<-Rtype.kind t))) Tryz.func248 (by kernel_rfl) (by kernel_rfl) (by kernel_rfl) (by kernel_rfl);have h5:=@run_callFunc_extern Tryz.prog 261 _ (ReflectliteType.method ReflectliteType.elem) Tryz.func261 (by kernel_rfl) (by kernel_rfl) (by kernel_rfl) (by kernel_rfl);have h6:=@run_callFunc_extern Tryz.prog 262 _ (ReflectliteType.relation "Implements" ReflectliteType.implements_) Tryz.func262 (by kernel_rfl) (by kernel_rfl) (by kernel_rfl) (by kernel_rfl);have h7:=@run_callFunc_extern Tryz.prog 97 _ ReflectliteType.typeOf Tryz.func97 (by kernel_rfl) (by kernel_rfl) (by kernel_rfl) (by kernel_rfl);have h8:=@run_callFunc_extern Tryz.prog 259 _ (ReflectliteType.relation "AssignableTo" ReflectliteType.assignableTo) Tryz.func259 (by kernel_rfl) (by kernel_rfl) (by kernel_rfl) (by kernel_rfl);have h9:=@run_callFunc_extern Tryz.prog 162 _ (ReflectliteValue.method (ReflectliteValue.valueError "reflectlite.Value.Elem" 0) ReflectliteValue.elem) Tryz.func162 (by kernel_rfl) (by kernel_rfl) (by kernel_rfl) (by kernel_rfl);have h10:=@run_callFunc_extern Tryz.prog 163 _ ReflectliteValue.set Tryz.func163 (by kernel_rfl) (by kernel_rfl) (by kernel_rfl) (by kernel_rfl);have tO:=b8Y;have mA:=methodAssignableTo;have a25:=b1j;have v25:=b6x;have f6:=b0o;have f7:=b8U;have mK:=methodKind;have mE:=methodElem;have mI:=methodImplements;have k27:=b8V;have k25:=b8W;have e27:=b8X;have i25:=a5u;have n8:=b5M ⟨w.heap.size,0,none⟩ t ((w.alloc (.cells #[.pointer (some t)] 162)).alloc (.cells #[.pointer (some ⟨7,162,none⟩),.pointer (some ⟨w.heap.size,0,none⟩),.int .u64 150] 228)) (by simp);have hlt:=World.block_lt_of_cell? w _ hg;have hg2:((w.alloc (.cells #[.pointer (some t)] 162)).alloc (.cells #[.pointer (some ⟨7,162,none⟩),.pointer (some ⟨w.heap.size,0,none⟩),.int .u64 150] 228)).cell? ⟨0,0,none⟩=some (.iface 275 (.agg #[.pointer (some ⟨7,34,none⟩)])):=by
  rw[World.cell?_alloc_lt _ _ ⟨0,0,none⟩ (by simp),World.cell?_alloc_lt _ _ ⟨0,0,none⟩ hlt];exact hg
 have htl:=World.block_lt_of_cell? w _ ht0;have el:=c3S ⟨w.heap.size,0,none⟩ t (((w.alloc (.cells #[.pointer (some t)] 162)).alloc (.cells #[.pointer (some ⟨7,162,none⟩),.pointer (some ⟨w.heap.size,0,none⟩),.int .u64 150] 228)).alloc (.cells #[.pointer (some ⟨7,162,none⟩),.pointer (some ⟨w.heap.size,0,none⟩),.int .u64 150] 228)) (by rw[World.cell?_alloc_lt _ _ ⟨w.heap.size,0,none⟩ (by simp;omega)];simp);have st:=c5h t ⟨w.heap.size+1+1+1,0,none⟩ e old ((((w.alloc (.cells #[.pointer (some t)] 162)).alloc (.cells #[.pointer (some ⟨7,162,none⟩),.pointer (some ⟨w.heap.size,0,none⟩),.int .u64 150] 228)).alloc (.cells #[.pointer (some ⟨7,162,none⟩),.pointer (some ⟨w.heap.size,0,none⟩),.int .u64 150] 228)).alloc (.cells #[.pointer (some e)] 132))
  (by rw[World.cell?_alloc_at _ _ _ _ (by simp)];rfl)
  (by rw[World.cell?_alloc_lt _ _ t (by simp;omega),World.cell?_alloc_lt _ _ t (by simp;omega),World.cell?_alloc_lt _ _ t (by simp;omega),World.cell?_alloc_lt _ _ t htl];exact ht0)
  (by rw[World.frozen?_alloc_old _ _ t (by simp;omega),World.frozen?_alloc_old _ _ t (by simp;omega),World.frozen?_alloc_old _ _ t (by simp;omega),World.frozen?_alloc_old _ _ t (Nat.ne_of_lt htl)];exact hf0)
 go_enter Tryz.func65,Tryz.ntmps65
 go_wp2;refine wp_loop_rounds 1 ?_;rw[rounds_succ];go_wp2;go_ret;exact⟨rfl,rfl⟩
theorem c1Y(n:Int)(t:Addr)(old:Value)(w:World)(hg:w.cell? ⟨0,0,none⟩=some (.iface 275 (.agg #[.pointer (some ⟨7,34,none⟩)])))(ht0:w.cell? t=some old)(hf0:w.frozen? t=false):
 Calls Tryz.prog 65 #[.iface 37 (.int .i64 n),.iface 163 (.pointer (some t))] w fun ev w'=>ev=.returned (.bool true)/\w'=((((w.alloc (.cells #[.pointer (some t)] 163)).alloc (.cells #[.pointer (some ⟨7,163,none⟩),.pointer (some ⟨w.heap.size,0,none⟩),.int .u64 150] 228)).alloc (.cells #[.pointer (some ⟨7,163,none⟩),.pointer (some ⟨w.heap.size,0,none⟩),.int .u64 150] 228)).alloc (.cells #[.int .i64 n] 37)).setCell t (.int .i64 n):=by
 have h1:=@run_callFunc_extern Tryz.prog 119 _ (fun args=>ReflectliteValue.unpack (args.getD 0 (.tuple #[]))) Tryz.func119 (by kernel_rfl) (by kernel_rfl) (by kernel_rfl) (by kernel_rfl);have h2:=@run_callFunc_extern Tryz.prog 120 _ (ReflectliteValue.methodAny (ReflectliteValue.valueError "reflectlite.Value.Type" 0) (fun t _ _ _=>ReflectliteType.toType t)) Tryz.func120 (by kernel_rfl) (by kernel_rfl) (by kernel_rfl) (by kernel_rfl);have h3:=@run_callFunc_extern Tryz.prog 121 _ (ReflectliteValue.method (ReflectliteValue.valueError "reflectlite.Value.IsNil" 0) ReflectliteValue.isNil) Tryz.func121 (by kernel_rfl) (by kernel_rfl) (by kernel_rfl) (by kernel_rfl);have h4:=@run_callFunc_extern Tryz.prog 248 _ (ReflectliteType.abiMethod fun t=>do pure (.int .u8 (<-Rtype.kind t))) Tryz.func248 (by kernel_rfl) (by kernel_rfl) (by kernel_rfl) (by kernel_rfl);have h5:=@run_callFunc_extern Tryz.prog 261 _ (ReflectliteType.method ReflectliteType.elem) Tryz.func261 (by kernel_rfl) (by kernel_rfl) (by kernel_rfl) (by kernel_rfl);have h6:=@run_callFunc_extern Tryz.prog 262 _ (ReflectliteType.relation "Implements" ReflectliteType.implements_) Tryz.func262 (by kernel_rfl) (by kernel_rfl) (by kernel_rfl) (by kernel_rfl);have h7:=@run_callFunc_extern Tryz.prog 97 _ ReflectliteType.typeOf Tryz.func97 (by kernel_rfl) (by kernel_rfl) (by kernel_rfl) (by kernel_rfl);have h8:=@run_callFunc_extern Tryz.prog 259 _ (ReflectliteType.relation "AssignableTo" ReflectliteType.assignableTo) Tryz.func259 (by kernel_rfl) (by kernel_rfl) (by kernel_rfl) (by kernel_rfl);have h9:=@run_callFunc_extern Tryz.prog 162 _ (ReflectliteValue.method (ReflectliteValue.valueError "reflectlite.Value.Elem" 0) ReflectliteValue.elem) Tryz.func162 (by kernel_rfl) (by kernel_rfl) (by kernel_rfl) (by kernel_rfl);have h10:=@run_callFunc_extern Tryz.prog 163 _ ReflectliteValue.set Tryz.func163 (by kernel_rfl) (by kernel_rfl) (by kernel_rfl) (by kernel_rfl);have tO:=a5v;have mA:=methodAssignableTo;have a25:=b1l;have v25:=b6z;have f6:=b6y;have f7:=c3T;have mK:=methodKind;have mE:=methodElem;have mI:=methodImplements;have k27:=c3V;have k25:=c3W;have e27:=c3X;have i25:=b1k;have n8:=c1V ⟨w.heap.size,0,none⟩ t ((w.alloc (.cells #[.pointer (some t)] 163)).alloc (.cells #[.pointer (some ⟨7,163,none⟩),.pointer (some ⟨w.heap.size,0,none⟩),.int .u64 150] 228)) (by simp);have hlt:=World.block_lt_of_cell? w _ hg;have hg2:((w.alloc (.cells #[.pointer (some t)] 163)).alloc (.cells #[.pointer (some ⟨7,163,none⟩),.pointer (some ⟨w.heap.size,0,none⟩),.int .u64 150] 228)).cell? ⟨0,0,none⟩=some (.iface 275 (.agg #[.pointer (some ⟨7,34,none⟩)])):=by
  rw[World.cell?_alloc_lt _ _ ⟨0,0,none⟩ (by simp),World.cell?_alloc_lt _ _ ⟨0,0,none⟩ hlt];exact hg
 have htl:=World.block_lt_of_cell? w _ ht0;have el:=c3Y ⟨w.heap.size,0,none⟩ t (((w.alloc (.cells #[.pointer (some t)] 163)).alloc (.cells #[.pointer (some ⟨7,163,none⟩),.pointer (some ⟨w.heap.size,0,none⟩),.int .u64 150] 228)).alloc (.cells #[.pointer (some ⟨7,163,none⟩),.pointer (some ⟨w.heap.size,0,none⟩),.int .u64 150] 228)) (by rw[World.cell?_alloc_lt _ _ ⟨w.heap.size,0,none⟩ (by simp;omega)];simp);have st:=c5i t ⟨w.heap.size+1+1+1,0,none⟩ n old ((((w.alloc (.cells #[.pointer (some t)] 163)).alloc (.cells #[.pointer (some ⟨7,163,none⟩),.pointer (some ⟨w.heap.size,0,none⟩),.int .u64 150] 228)).alloc (.cells #[.pointer (some ⟨7,163,none⟩),.pointer (some ⟨w.heap.size,0,none⟩),.int .u64 150] 228)).alloc (.cells #[.int .i64 n] 37))
  (by rw[World.cell?_alloc_at _ _ _ _ (by simp)];rfl)
  (by rw[World.cell?_alloc_lt _ _ t (by simp;omega),World.cell?_alloc_lt _ _ t (by simp;omega),World.cell?_alloc_lt _ _ t (by simp;omega),World.cell?_alloc_lt _ _ t htl];exact ht0)
  (by rw[World.frozen?_alloc_old _ _ t (by simp;omega),World.frozen?_alloc_old _ _ t (by simp;omega),World.frozen?_alloc_old _ _ t (by simp;omega),World.frozen?_alloc_old _ _ t (Nat.ne_of_lt htl)];exact hf0)
 go_enter Tryz.func65,Tryz.ntmps65
 go_wp2;refine wp_loop_rounds 1 ?_;rw[rounds_succ];go_wp2;go_ret;exact⟨rfl,rfl⟩
end
section
open Go.RowKit Go.Extern.Stop Go.Stop Go.Extern
theorem c1Z(n:Int)(t:Addr)(w:World)(hg:w.cell? ⟨0,0,none⟩=some (.iface 275 (.agg #[.pointer (some ⟨7,34,none⟩)]))):
 Calls Tryz.prog 65 #[.iface 37 (.int .i64 n),.iface 162 (.pointer (some t))] w fun ev w'=>ev=.returned (.bool false)/\Below w.heap.size w w':=by
 have h1:=@run_callFunc_extern Tryz.prog 119 _ (fun args=>ReflectliteValue.unpack (args.getD 0 (.tuple #[]))) Tryz.func119 (by kernel_rfl) (by kernel_rfl) (by kernel_rfl) (by kernel_rfl);have h2:=@run_callFunc_extern Tryz.prog 120 _ (ReflectliteValue.methodAny (ReflectliteValue.valueError "reflectlite.Value.Type" 0) (fun t _ _ _=>ReflectliteType.toType t)) Tryz.func120 (by kernel_rfl) (by kernel_rfl) (by kernel_rfl) (by kernel_rfl);have h3:=@run_callFunc_extern Tryz.prog 121 _ (ReflectliteValue.method (ReflectliteValue.valueError "reflectlite.Value.IsNil" 0) ReflectliteValue.isNil) Tryz.func121 (by kernel_rfl) (by kernel_rfl) (by kernel_rfl) (by kernel_rfl);have h4:=@run_callFunc_extern Tryz.prog 248 _ (ReflectliteType.abiMethod fun t=>do pure (.int .u8 (<-Rtype.kind t))) Tryz.func248 (by kernel_rfl) (by kernel_rfl) (by kernel_rfl) (by kernel_rfl);have h5:=@run_callFunc_extern Tryz.prog 261 _ (ReflectliteType.method ReflectliteType.elem) Tryz.func261 (by kernel_rfl) (by kernel_rfl) (by kernel_rfl) (by kernel_rfl);have h6:=@run_callFunc_extern Tryz.prog 262 _ (ReflectliteType.relation "Implements" ReflectliteType.implements_) Tryz.func262 (by kernel_rfl) (by kernel_rfl) (by kernel_rfl) (by kernel_rfl);have h7:=@run_callFunc_extern Tryz.prog 97 _ ReflectliteType.typeOf Tryz.func97 (by kernel_rfl) (by kernel_rfl) (by kernel_rfl) (by kernel_rfl);have h8:=@run_callFunc_extern Tryz.prog 259 _ (ReflectliteType.relation "AssignableTo" ReflectliteType.assignableTo) Tryz.func259 (by kernel_rfl) (by kernel_rfl) (by kernel_rfl) (by kernel_rfl);have h9:=@run_callFunc_extern Tryz.prog 162 _ (ReflectliteValue.method (ReflectliteValue.valueError "reflectlite.Value.Elem" 0) ReflectliteValue.elem) Tryz.func162 (by kernel_rfl) (by kernel_rfl) (by kernel_rfl) (by kernel_rfl);have h10:=@run_callFunc_extern Tryz.prog 163 _ ReflectliteValue.set Tryz.func163 (by kernel_rfl) (by kernel_rfl) (by kernel_rfl) (by kernel_rfl);have tO:=a5v;have mA:=methodAssignableTo;have tA1:=run_typeAssert_lacksB (P:=Tryz.prog) (z:=.nilIface) (t:=37) (asserted:=292) rfl (by kernel_rfl) (by kernel_rfl);have tA2:=run_typeAssert_lacksB (P:=Tryz.prog) (z:=.nilIface) (t:=37) (asserted:=280) rfl (by kernel_rfl) (by kernel_rfl);have tA3:=run_typeAssert_lacksB (P:=Tryz.prog) (z:=.nilIface) (t:=37) (asserted:=281) rfl (by kernel_rfl) (by kernel_rfl);have a25:=b1m;have f6:=b0o;have f7:=b8U;have mK:=methodKind;have mE:=methodElem;have mI:=methodImplements;have k27:=b8V;have k25:=b8W;have e27:=b8X;have i25:=a5u;have n8:=b5M ⟨w.heap.size,0,none⟩ t ((w.alloc (.cells #[.pointer (some t)] 162)).alloc (.cells #[.pointer (some ⟨7,162,none⟩),.pointer (some ⟨w.heap.size,0,none⟩),.int .u64 150] 228)) (by simp);have hlt:=World.block_lt_of_cell? w _ hg;have hg2:((w.alloc (.cells #[.pointer (some t)] 162)).alloc (.cells #[.pointer (some ⟨7,162,none⟩),.pointer (some ⟨w.heap.size,0,none⟩),.int .u64 150] 228)).cell? ⟨0,0,none⟩=some (.iface 275 (.agg #[.pointer (some ⟨7,34,none⟩)])):=by
  rw[World.cell?_alloc_lt _ _ ⟨0,0,none⟩ (by simp),World.cell?_alloc_lt _ _ ⟨0,0,none⟩ hlt];exact hg
 go_enter Tryz.func65,Tryz.ntmps65
 go_wp2;refine wp_loop_rounds 1 ?_;rw[rounds_succ];go_wp2;go_ret;exact⟨rfl,(((Ext.refl w).new _).new _).new _⟩
end
end Go.Proofs.YtgpbhjjajpbeeaaGreatDoor
