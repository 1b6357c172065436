/- A part of what the last file proves. -/
import Derived.Test.YtgpbhjjajpbeeaaGreatDoorR04
import Derived.Shelf.Strings.Builder1
import Derived.Shelf.Strings.Builder2
import Derived.Shelf.Strings.Trim
import Derived.Shelf.Small.Utf8
import Derived.Shelf.Small.Bits
import Derived.Shelf.Small.Strs
import Derived.Shelf.Small.Wraps
import Derived.Shelf.Strings.BuilderF
import Derived.Shelf.Strings.BuilderK
import Derived.Shelf.Strings.Builder2Cap
import Derived.Shelf.Strconv.Itoa0
import Derived.Shelf.Strconv.Itoa1
import Derived.Shelf.LaysM
import Derived.Shelf.Strconv.Itoa2
import Derived.Shelf.Strconv.Itoa3
import Derived.Shelf.Strings.Search1
import Derived.Shelf.Sort.Plain
import Derived.Shelf.Strings.Prefix
import Derived.Shelf.Unicode.Decode
import Derived.Shelf.Strings.Runes
import Derived.Shelf.Strings.AsciiSet
import Derived.Shelf.Bits.Mul64
import Derived.Shelf.Strings.Repeat
import Derived.Shelf.Unicode.DecodeSlow
import Derived.Shelf.Unicode.DecodeAny
import Derived.Shelf.Unicode.DecodeLast
import Derived.Shelf.Strings.BuilderCap
import Derived.Shelf.Slices.Turned
import Derived.Shelf.Slices.In.SortNone
import Derived.Sort.OwnSorted
set_option linter.all false
set_option maxRecDepth 100000
set_option maxHeartbeats 1600000
namespace Go.Proofs.YtgpbhjjajpbeeaaGreatDoor
section
open Go.RowKit Go.Lib Go.Maps Dk
theorem a8h(f:Nat->Nat)(c:Nat):∀l:List (Nm×Nat),(∀p∈l,f p.2<=c)->(l.map fun p=>f p.2).sum<=l.length*c:=by
 intro l
 induction l with
 | nil=>intro _;simp
 | cons p l ih=>
  intro h;have h1:=h p (by simp);have h2:=ih fun q hq=>h q (by simp[hq]);simp only[List.map_cons,List.sum_cons,List.length_cons,Nat.succ_mul];omega
theorem Ext.off{w w1 w2:World}(h:Ext w w1){i:Nat}(hO:Off i w1 w2)(hi:w.heap.size<=i):Ext w w2:=
 ⟨hO.os.trans h.os,hO.tape.trans h.tape,hO.output.trans h.output,by have:=hO.size;have:=h.size;omega,fun b hb=>(hO.block b (by omega)).trans (h.block b hb)⟩
theorem o7.grown'{w w':World}{n:Nat}{t:TypeId}{cs:Array Value}(h:o7 w n t cs){row:Option Nat}(hg:w.grownBy w' row)(hr:row≠some n):o7 w' n t cs:=
 (hg.block n h.lt (fun e=>hr e.symm)).trans h
def szs(d:D)(vis:List (Nm×Nat)):Nat:=(vis.map fun p=>(d.node p.2).data.length).sum
theorem b3N(F:Nat->Prop)(a:Nat)(d:D)(name:Nm)(u:Value)(l:List UInt8)(w:World)(h:A8 w F a d)(hb:Held w F (fun W=>Bytes W u l))(hn:name.length<=maxLen)(hl:l.length<=35184372088832)
 (hds:∀x∈d.ids,(d.node x).data.length<=35184372088832)(hnl:d.now.length<=32768):
 Calls Tryz.prog 91 #[y8 a,strV name,u] w fun e w'=>c1k F a (d.append name l) w e w':=by
 have hfind:=a5m F a d name w h hn;obtain⟨i0,hi,hz0,hz1,hz2⟩:=info_parts a4m;have HF:=Lib.hid hfind;clear hfind h;obtain⟨ua,ucap,hu⟩:∃a c,u=.slice a l.length c:=by obtain⟨a,c,h,_⟩:=hb.get;exact⟨a,c,h⟩
 subst hu;have HBy:=Lib.hid hb;clear hb;unfold y8 strV at *;go_enter Tryz.func91,Tryz.ntmps91
 go_wp2_with fail
 refine HF.out.mono ?_;intro e w1 hfi;obtain⟨hD,hC,hc⟩:=hfi.cases;have hxi:∀x,(d.find name).1=some x->x∈(d.find name).2.2.ids:=fun x hx=>D.find_mem d name x hx hD.wf;have hby1:=HBy.out.step hC;have hfm:=a3g d name;have hds1:∀x∈(d.find name).2.2.ids,((d.find name).2.2.node x).data.length<=35184372088832:=by rw[hfm.2.2.1,hfm.2.2.2.1];exact hds
 have hnl1:(d.find name).2.2.now.length<=32768:=by rw[hfm.2.1];exact hnl
 rcases hc with⟨b,k,rfl,hx,hk,hv⟩|⟨x,rfl,hx⟩
 ·have HD:=Lib.hid hD;have HC:=Lib.hid hC;clear hD hC hfi hby1 hfm hds1 hnl1;have HV:=Lib.hid hv;clear hv;go_wp2;go_ret;refine⟨F,.iface 132 (.pointer (some ⟨b,0,none⟩)),rfl,?_,?_,HC.out,fun b hb=>hb⟩
  ·rw[a8f hx];exact HV.out
  ·rw[a8f hx];exact HD.out
 ·have hxm:=hxi x hx;have hdx:=hds1 x hxm;have HX:=Lib.hid hx;have happ:=b6l (b:=l) hx;have HAP:=Lib.hid happ;have HC:=Lib.hid hC;have HB1:=Lib.hid hby1;have HDS:=Lib.hid hds1;have HNL:=Lib.hid hnl1;clear hC hfi hby1 hxi hfm hds1 hnl1 happ hx;generalize hE:(d.find name).2.2=E at *;clear hE;obtain⟨m1,m2,mv,gs,dv,hr⟩:=hD;have c0:=hr.box.cell 0;have hnum:=hr.num;obtain⟨w2,hrange,hRA,hExt,hsz2⟩:=hr.now.range Tryz.underlying171;have HR:=Lib.hid hr;have HRA:=Lib.hid hRA;have HEX:=Lib.hid hExt;clear hr hRA hExt;go_wp2;go_loopw [9] (fun i wr=>∃vis,i=.int .i64 (szs E vis:Nat)/\P9 Tryz.prog 9 strV y8 wr w1.heap.size m1 E.now vis/\Ext w1 wr) (fun _ wr=>E.now.length - b1D wr w1.heap.size)
  case atStart=>exact⟨[],rfl,HRA.out,HEX.out⟩
  case round=>
   obtain⟨vis,rfl,hRA,hEx⟩:=hrel;have hvl:=hRA.length;have hseen:=hRA.seen;rcases hRA.next 0 with⟨p,w3,hnx,hpm,hRA3,hO3,hent,hvlt⟩|⟨hnx,hperm⟩
   ·have hpi:=HR.out.wf.now p hpm;have hEx3:Ext w1 w3:=hEx.off hO3 (Nat.le_refl _);obtain⟨hb,ho⟩:=(HR.out.ext hEx3).file p.2 hpi;obtain⟨da,dc,hdv⟩:=ownsRow_form ho;rw[hdv] at hb;have c1:=hb.cell 0;have hdl:=HDS.out p.2 hpi;have hsum:szs E (vis++[p])=szs E vis+(E.node p.2).data.length:=by simp[szs]
    have hmem:∀q∈vis,(E.node q.2).data.length<=35184372088832:=fun q hq=>HDS.out q.2 (HR.out.wf.now q (hRA.mem q hq));have hsb:szs E vis<=vis.length*35184372088832:=a8h (fun x=>(E.node x).data.length) _ vis hmem;have hnl2:=HNL.out;have hsb2:szs E vis<=1152921504606846976:=Nat.le_trans hsb (by omega);have hseen3:=hRA3.seen;have HH:=Lib.hid hRA3;have HS:=Lib.hid hsum;have HSN:=Lib.hid hseen;have HSN3:=Lib.hid hseen3;have HE3:=Lib.hid hEx3;have HO3:=Lib.hid hO3;clear ho hb hRA3 hsum hseen hseen3 hmem hsb hRA hO3 hEx3;unfold strV y8 at hnx hent;go_wp2;go_roundw
    case rel=>
     refine⟨vis++[p],?_,HH.out,HE3.out⟩;rw[HS.out];go_num
    case measure=>rw[HSN.out,HSN3.out];simp;omega
   ·have hused:szs E vis=E.used:=by unfold szs D.used;exact(hperm.map _).sum_nat
    have hsb:E.used<=E.now.length*35184372088832:=a8h (fun x=>(E.node x).data.length) _ E.now (fun q hq=>HDS.out q.2 (HR.out.wf.now q hq));have hnl2:=HNL.out;have hub:E.used<=1152921504606846976:=Nat.le_trans hsb (by omega);have hRr:=HR.out.ext hEx;have c3:=hRr.box.cell 3;obtain⟨hb,ho⟩:=hRr.file x hxm;obtain⟨da,dc,hdv⟩:=ownsRow_form ho;have hfl0:=hRr.flat x hxm;have byte0:∀x∈(Value.int .u8 0).cells,isByte x:=fun x hx=>⟨0,by simpa [Value.cells] using hx⟩;rw[hdv] at hb ho hfl0;have hbx:=F9 ho hb (by decide);have d0:=hb.cell 0;have g0:=hb.free 0;have hby:=(HB1.out.ext hEx);rw[hused];have HRR:=Lib.hid hRr;have HEX2:=Lib.hid hEx;have HBX:=Lib.hid hb;have HNE:=Lib.hid hbx;have HDV:=Lib.hid hdv;have HBYR:=Lib.hid hby;clear hRr hEx hb hbx hRA hperm hseen hsb hused hby hdv c0;by_cases hroom:E.room - (E.used:Int)<(l.length:Int)
    ·go_wp2;go_ret;have hE4:Ext w1 (wr.alloc (.cells #[strV name,.int .i64 10] 134)):=HEX2.out.new _;refine⟨F,.iface 132 (.pointer (some ⟨wr.heap.size,0,none⟩)),rfl,?_,?_,HC.out.trans (Chg.ext hE4),fun b hb=>hb⟩
     ·rw[HAP.out,if_pos hroom];exact a1v HRR.out.low
     ·rw[HAP.out,if_pos hroom];exact⟨m1,m2,mv,gs,dv,HR.out.ext hE4⟩
    ·go_wp2_with (at_builtin;go_must (refine a0e (F:=isByte) rfl _ _ 25 rfl 0 5 i0 (.int .u8 0) 1 1 Tryz.underlying25 hi hz0 hz1 hz2 rfl (by omega) (.slice da (E.node x).data.length dc) (E.node x).data.length ((E.node x).data.map byteV) rfl ho (.slice ua l.length ucap) l.length (l.map byteV) rfl HBYR.out.get (by simp) (a0O l) (by unfold maxLen;omega) (by omega) (by omega) byte0 (a8l l) hfl0 ?_);intro b6 c6 w6 hown6 hgrow6 hat6 hfl6;have hb6:=HBX.out.grown' hgrow6 HNE.out;have d6:=o7.cell hb6 0;have g6:=o7.free hb6 0;have HB6:=Lib.hid hb6;clear hb6)
     go_ret;have hlen:((E.node x).data++l).length=(E.node x).data.length+l.length:=by simp
     have hne6:(Value.slice b6 ((E.node x).data.length+l.length) c6).ownBlock≠some x:=F9 hown6 HB6.out (by decide);have hR2:=HRR.out.node' (w':=w6.setCell ⟨x,0,none⟩ (.slice b6 ((E.node x).data.length+l.length) c6)) hxm
      (fun b hb hne hno=>(Below.heap_setCell _ _ _ _ hne).trans (hgrow6.block b hb (fun e=>hno (by rw[HDV.out];exact e.symm))))
      (by simpa [World.setCell] using hgrow6.size) (HB6.out.set 0 _) (l:=(E.node x).data++l)
      (by unfold OwnB;rw[hlen,List.map_append];exact ownsRow_setCell_other (a:=⟨x,0,none⟩) hown6 hne6 _)
      (fun b hb=>by rw[HDV.out];rcases hat6 with h|h<;>rw[h] at hb;(exact .inl hb);(injection hb with hb;exact .inr (Nat.le_of_eq hb)))
      (by rw[hlen];have:=HRR.out.wf.part x hxm;omega) (hfl6.keep fun b hb=>Below.heap_setCell _ _ _ _ (fun(e:b=x)=>hne6 (e▸hb))) (G:=fun b=>F b\/wr.heap.size<=b/\b<w6.heap.size) (fun b=>by simp[World.setCell])
     have hxF:=HRR.out.fx x hxm;rw[HDV.out] at hxF;have hC2:Chg F (fun b=>F b\/wr.heap.size<=b/\b<w6.heap.size) wr (w6.setCell ⟨x,0,none⟩ (.slice b6 ((E.node x).data.length+l.length) c6)):=
      ⟨hgrow6.os,hgrow6.tape,hgrow6.output,by simpa [World.setCell] using hgrow6.size,fun b hb hF=>(Below.heap_setCell _ _ _ _ (fun e=>hF (by rw[show b=x from e];exact hxF.1))).trans (hgrow6.block b hb (fun e=>hF (hxF.2 b e.symm))),fun b hb=>hb.elim .inl fun h=>.inr h.1⟩
     refine⟨_,.nilIface,rfl,?_,?_,HC.out.trans ((Chg.ext HEX2.out).trans hC2),fun b hb=>.inl hb⟩
     ·rw[HAP.out,if_neg (by omega)];exact a3f _ _
     ·rw[HAP.out,if_neg (by omega)];exact⟨m1,m2,mv,gs,_,hR2⟩
end
section
open Go.RowKit Go.Lib Go.Maps Dk
section
variable{w w':World}{F:Nat->Prop}{a m1 m2:Nat}{mv:Value}{gs:List Nat}{dv:Nat->Value}{d:D}
theorem DiskRep.still(h:DiskRep w F a m1 m2 mv gs dv d):DiskRep (w.setCell ⟨a,2,none⟩ (.slice none 0 0)) F a m1 m2 (.slice none 0 0) [] dv {d with moves:=[]}:=by
 have hO:=(Off.refl a w).setCell 2 (.slice none 0 0);have hb:=h.box;exact{
  box:=h.box.set 2 _
  now:=h.now.off hO (h.map_ne hb).1
  safe:=h.safe.off hO (h.map_ne hb).2
  ne:=h.ne
  rows:=⟨rfl,by simp⟩
  outer:=⟨rfl,Or.inl ⟨rfl,rfl⟩⟩
  outf:=fun g c e fr h=>by cases h
  flat:=fun x hx=>(h.flat x hx).keep fun b hb'=>hO.block b (fun e=>F9 (h.file x hx).2 hb (by decide) (e▸hb'))
  file:=fun x hx=>⟨(hO.block x (a3i (h.file x hx).1 hb (by decide))).trans (h.file x hx).1,Dep.row (h.file x hx).2 _ fun b hb'=>hO.block b (fun e=>F9 (h.file x hx).2 hb (by decide) (e▸hb'))⟩
  apart:=h.apart
  fa:=h.fa
  fm:=h.fm
  fg:=by simp
  fo:=by simp[Value.ownBlock]
  fx:=h.fx
  low:=fun b hb=>by rw[hO.size];exact h.low b hb
  wf:=⟨h.wf.now,h.wf.safe,by simp,h.wf.part,h.wf.ids⟩
  num:=h.num}
theorem DiskRep.outer_cell(h:DiskRep w F a m1 m2 mv gs dv d){k:Nat}{l:List Mv}(hk:d.moves[k]?=some l):∃b c g,mv=.slice (some ⟨b,0,none⟩) d.moves.length c/\w.cell? ⟨b,k,none⟩=some (mvV g l)/\a0z w g l:=by
 have hlt:k<d.moves.length:=by
  rcases Nat.lt_or_ge k d.moves.length with h|h
  ·exact h
  ·rw[List.getElem?_eq_none h] at hk;cases hk
 have hl:=h.rows.1;have ho:=h.outer;rcases h.outer.2 with⟨_,h0⟩|⟨b,cap,cur,rfl,_,_,_,_,_,_⟩
 ·omega
 ·have hg:gs[k]?=some gs[k]:=List.getElem?_eq_getElem (by omega);refine⟨b,cap,gs[k],rfl,?_,h.rows.2 k _ l hg hk⟩;have hz:(gs.zip d.moves)[k]?=some (gs[k],l):=by rw[List.getElem?_zip_eq_some];exact⟨hg,hk⟩
  have hm:((gs.zip d.moves).map fun p=>mvV p.1 p.2)[k]?=some (mvV gs[k] l):=by rw[List.getElem?_map,hz];rfl
  rw[ho.cellAt k (by omega)];exact hm
end
theorem a4R{ms:List (List Mv)}:∀{m:List (Nm×Nat)}{p:Nm×Nat},p∈ms.foldl D5 m->p∈m\/∃l∈ms,∃x∈l,x.2=some p.2:=by
 induction ms with
 | nil=>intro m p h;exact .inl h
 | cons l ms ih=>
  intro m p h;rcases ih h with h|⟨k,hk,h⟩
  ·rcases a0Y h with h|h
   ·exact .inl h
   ·exact .inr ⟨l,by simp,h⟩
  ·exact .inr ⟨k,by simp[hk],h⟩
theorem b2q(F:Nat->Prop)(a:Nat)(d:D)(w:World)(h:A8 w F a d)(hml:d.moves.length<=1000000)(hms:∀l∈d.moves,l.length<=1000000/\∀m∈l,m.1.length<=maxLen):
 Calls Tryz.prog 53 #[y8 a] w fun e w'=>c1k F a d.syncDir w e w':=by
 have hfail:=a6e F a d w h;have HF:=Lib.hid hfail;clear hfail h;have hfn:=d.fails_now;have hsd:d.syncDir=if d.fails.1=true then(.file 9 [],d.fails.2) else(.ok,{d.fails.2 with safe:=d.fails.2.moves.foldl D5 d.fails.2.safe,moves:=[]}):=by
  unfold D.syncDir;rw[hfn.2.1,hfn.2.2.1]
 rw[<-hfn.2.2.1] at hml hms;have HM:=Lib.hid hms;clear hms;have HSD:=Lib.hid hsd;clear hsd hfn;unfold y8;go_enter Tryz.func53,Tryz.ntmps53
 go_wp2_with fail
 refine HF.out.mono ?_;rintro e w1 ⟨rfl,hD,hO⟩;have hl1:∀b,F b->b<w1.heap.size:=hD.low;have hfa:F a:=hD.fa;have HC:=Lib.hid (Chg.off (F:=F) hO hfa);clear hO
 cases hf:d.fails.1 with
 | true=>
  have HD:=Lib.hid hD;clear hD;go_wp2;go_ret;refine⟨F,.iface 132 (.pointer (some ⟨w1.heap.size,0,none⟩)),rfl,?_,?_,HC.out.trans (Chg.ext ((Ext.refl w1).new _)),fun b hb=>hb⟩
  ·rw[HSD.out,if_pos hf];exact a1v (name:=[]) hl1
  ·rw[HSD.out,if_pos hf];exact HD.out.ext ((Ext.refl w1).new _)
 | false=>
  have hff:¬d.fails.1=true:=by rw[hf];decide
  generalize hE:d.fails.2=E at *;clear hE;obtain⟨m1,m2,mv,gs,dv,hr⟩:=hD;have c1:=hr.box.cell 1;have c2:=hr.box.cell 2;obtain⟨mva,mvc,rfl⟩:=ownsRow_form hr.outer;have HR:=Lib.hid hr;clear hr;go_wp2;go_loopw [15] (fun i wr=>∃k:Nat,k<=E.moves.length/\i=.int .i64 k/\DiskRep wr F a m1 m2 (.slice mva E.moves.length mvc) gs dv {E with safe:=(E.moves.take k).foldl D5 E.safe}/\Chg F F w1 wr) (fun i _=>E.moves.length - (intOf i).toNat)
  case atStart=>exact⟨0,Nat.zero_le _,rfl,HR.out,Chg.refl _ _⟩
  case round=>
   obtain⟨k,hk,rfl,hr,hC⟩:=hrel;have d1:=hr.box.cell 1;by_cases hlt:k<E.moves.length
   ·obtain⟨l,hm⟩:∃l,E.moves[k]?=some l:=⟨_,List.getElem?_eq_getElem hlt⟩;obtain⟨b,c,g,hbc,hcell,hrow⟩:=hr.outer_cell hm;injection hbc with hb1 hb2 hb3;subst hb1;have hml:=HM.out l (List.mem_of_getElem? hm);have hset:=set_any m2 g _ l wr hr.safe hrow hml.2 hml.1;have htk:E.moves.take (k+1)=E.moves.take k++[l]:=by rw[List.take_add_one,hm];rfl
    have HT:=Lib.hid htk;have HRR:=Lib.hid hr;have HC2:=Lib.hid hC;have HS:=Lib.hid hset;have HLM:=Lib.hid (List.mem_of_getElem? hm);clear htk hr hC hset hrow hml hm hb2 hb3;unfold mvV at hcell HS;go_wp2_with fail
    refine HS.out.mono ?_;rintro e w3 ⟨rfl,hN3,hC3⟩;have HN3:=Lib.hid hN3;have HC3:=Lib.hid hC3;clear hN3 hC3;go_wp2;go_roundw
    case rel=>
     have hids:∀p∈D5 ((E.moves.take k).foldl D5 E.safe) l,p.2∈E.ids:=by
      intro p hp;rcases a0Y hp with hp|⟨x,hx,e⟩
      ·rcases a4R hp with hp|⟨q,hq,x,hx,e⟩
       ·exact HR.out.wf.safe p hp
       ·exact HR.out.wf.moves q (List.mem_of_mem_take hq) x hx _ e
      ·exact HR.out.wf.moves l HLM.out x hx _ e
     have hR3:=HRR.out.safe' (fun b hb hne=>HC3.out.block b hb hne) HC3.out.size HN3.out hids;refine⟨k+1,by omega,by go_num,?_,?_⟩
     ·rw[HT.out,List.foldl_append];exact hR3
     ·exact HC2.out.trans ⟨HC3.out.os,HC3.out.tape,HC3.out.output,HC3.out.size,fun b hb hF=>HC3.out.block b hb (fun e=>hF (e▸HRR.out.fm.2)),fun b hb=>.inl hb⟩
    case measure=>simp[intOf];omega
   ·obtain rfl:k=E.moves.length:=by omega
    rw[List.take_length] at hr;have f2:=hr.box.free 2;have d2:=hr.box.cell 2;have HRR:=Lib.hid hr;have HC2:=Lib.hid hC;clear hr hC;go_wp2;go_ret;have hR2:=HRR.out.still;refine⟨F,.nilIface,rfl,?_,?_,HC.out.trans (HC2.out.trans (Chg.off ((Off.refl a wr).setCell 2 _) hfa)),fun b hb=>hb⟩
    ·rw[HSD.out,if_neg hff];exact a3f _ _
    ·rw[HSD.out,if_neg hff];exact⟨m1,m2,_,_,dv,hR2⟩
def D.fail(d:D)(after times:Int):D:={d with wait:=after.toNat,bad:=times.toNat}
end
section
open Go.RowKit Go.Lib Go.Maps Dk
def Dk.cut(tail:Nat)(n:Nd):Nd:=⟨n.data.take (n.safe+tail%(n.data.length - n.safe+1)),n.safe+tail%(n.data.length - n.safe+1)⟩
def Dk.D.stepped(d:D)(dir:Nat):List (Nm×Nat):=(d.moves.take (dir%(d.moves.length+1))).foldl D5 d.safe
theorem OwnB.take{w:World}{B:Nat}{ao:Option Addr}{n cap:Nat}{l:List UInt8}(h:OwnB w B (.slice ao n cap) l){k:Nat}(hk:k<=l.length):OwnB w B (.slice ao k cap) (l.take k):=by
 unfold OwnB at *;have hl:(l.take k).length=k:=by rw[List.length_take];omega
 rw[hl];obtain⟨h1,h2⟩:=h;refine⟨by rw[List.length_map,hl,Nat.mul_one],?_⟩;rcases h2 with⟨e,h0⟩|⟨g,c,cur,e,hb,hg,h3,h4,h5,h6⟩
 ·injection e with e1 e2 e3;subst e1;subst e3;have:k=0:=by omega
  subst this;exact .inl ⟨rfl,rfl⟩
 ·injection e with e1 e2 e3;subst e1;subst e3;refine .inr ⟨g,cap,cur,rfl,hb,hg,by omega,h4,h5,?_⟩;rw[Nat.mul_one] at h6⊢;rw[List.map_take,<-h6,List.take_take,Nat.min_eq_left hk]
end
section
open Dk
def leN(x y:Nm):Bool:=decide (x<=y)
def Dk.D.list(d:D):List Nm:=(d.now.map Prod.fst).mergeSort leN
theorem a97(a b c:Nm)(h:leN a b=true)(k:leN b c=true):leN a c=true:=by
 unfold leN at *;simp at *;exact Std.le_trans h k
theorem a98(a b:Nm):(leN a b||leN b a)=true:=by
 unfold leN;simp;exact Std.le_total
theorem b6m{l k:List Nm}(h:l.Perm k):l.mergeSort leN=k.mergeSort leN:=by
 refine List.Perm.eq_of_pairwise (le:=fun a b=>leN a b=true) ?_ (List.pairwise_mergeSort a97 a98 l) (List.pairwise_mergeSort a97 a98 k) ?_
 ·intro a b _ _ h1 h2;unfold leN at h1 h2;simp at h1 h2;exact Std.le_antisymm h1 h2
 ·exact(List.mergeSort_perm l leN).trans (h.trans (List.mergeSort_perm k leN).symm)
end
section
open Go.RowKit Go.Lib Go.Maps Dk
section look
variable{α β:Type}[DecidableEq α]
theorem a4j(l:List (α×β))(x y:α):F5 (a3k l x) y=if y=x then none else F5 l y:=by
 unfold F5 a3k
 induction l with
 | nil=>simp
 | cons p l ih=>
  by_cases h:p.1=x
  ·rw[List.filter_cons_of_neg (by simpa using h),ih];split
   ·rfl
   ·rename_i hy;rw[List.find?_cons_of_neg (by simp;exact fun e=>hy (e.symm.trans h))]
  ·rw[List.filter_cons_of_pos (by simpa using h)];by_cases hp:p.1=y
   ·rw[List.find?_cons_of_pos (by simpa using hp),List.find?_cons_of_pos (by simpa using hp),if_neg (fun e=>h (hp.trans e))]
   ·rw[List.find?_cons_of_neg (by simpa using hp),List.find?_cons_of_neg (by simpa using hp),ih]
theorem a0c(p:α×β)(l:List (α×β))(y:α):F5 (p::l) y=if p.1=y then some p.2 else F5 l y:=by
 unfold F5;by_cases h:p.1=y
 ·rw[List.find?_cons_of_pos (by simpa using h),if_pos h];rfl
 ·rw[List.find?_cons_of_neg (by simpa using h),if_neg h]
theorem a94(y:α):F5 ([]:List (α×β)) y=none:=rfl
theorem a3d(l k:List (α×β))(y:α):F5 (l++k) y=(F5 l y).or (F5 k y):=by
 induction l with
 | nil=>rfl
 | cons p l ih=>
  rw[List.cons_append,a0c,a0c,ih];split<;>rfl
theorem O7{l:List (α×β)}{x:α}:F5 l x=none<->x∉l.map (·.1):=by
 induction l with
 | nil=>simp[a94]
 | cons p l ih=>
  rw[a0c,List.map_cons,List.mem_cons];split
  ·rename_i h;simp[h]
  ·rename_i h;rw[ih];simp[Ne.symm h]
theorem a95(l:List (α×β))(x:α)(y:β)(z:α):F5 (a1d l x y) z=if z=x then some y else F5 l z:=by
 unfold a1d;split
 ·rename_i hx
  induction l with
  | nil=>simp at hx
  | cons p l ih=>
   rw[List.map_cons,a0c,a0c];by_cases hp:p.1=x
   ·rw[if_pos hp];by_cases hz:z=x
    ·subst hz;simp
    ·rw[if_neg (fun e=>hz e.symm),if_neg hz,if_neg (fun e=>hz (e.symm.trans hp))];by_cases hx':x∈l.map (·.1)
     ·rw[ih hx',if_neg hz]
     ·have:(l.map fun p=>if p.1=x then(x,y) else p)=l:=by
       conv=>rhs;rw[<-List.map_id l]
       apply List.map_congr_left;intro q hq;have:q.1≠x:=fun e=>hx' (e▸List.mem_map_of_mem hq);simp[this]
      rw[this]
   ·rw[if_neg hp];have hx':x∈l.map (·.1):=by
     rw[List.map_cons,List.mem_cons] at hx;rcases hx with h|h
     ·exact absurd h.symm hp
     ·exact h
    rw[ih hx'];by_cases hz:z=x
    ·subst hz;rw[if_neg hp];simp
    ·simp[hz]
 ·rename_i hx;rw[a3d,a0c,a94];by_cases hz:z=x
  ·subst hz;rw[if_pos rfl,if_pos rfl,O7.2 hx];rfl
  ·rw[if_neg (Ne.symm hz),if_neg hz];simp
def a4k(l k:List (α×β)):Prop:=∀x,F5 l x=F5 k x
theorem b03{l:List (α×β)}(hn:(l.map (·.1)).Nodup){p:α×β}(hp:p∈l):F5 l p.1=some p.2:=by
 obtain⟨j,hj⟩:=List.mem_iff_getElem?.1 hp;exact b2F hn hj
end look
namespace Dk
theorem a4D{l k:List (Nm×Nat)}(ms:List Mv)(h:a4k l k):a4k (D5 l ms) (D5 k ms):=by
 induction ms generalizing l k with
 | nil=>exact h
 | cons m ms ih=>
  refine ih (l:=match m.2 with|none=>a3k l m.1|some f=>a1d l m.1 f) (k:=match m.2 with|none=>a3k k m.1|some f=>a1d k m.1 f) ?_;intro x
  cases m.2 with
  | none=>show F5 (a3k l m.1) x=F5 (a3k k m.1) x;rw[a4j,a4j,h x]
  | some f=>show F5 (a1d l m.1 f) x=F5 (a1d k m.1 f) x;rw[a95,a95,h x]
theorem a0V{l:List (Nm×Nat)}(ms:List Mv)(h:(l.map (·.1)).Nodup):((D5 l ms).map (·.1)).Nodup:=by
 induction ms generalizing l with
 | nil=>exact h
 | cons m ms ih=>
  refine ih (l:=match m.2 with|none=>a3k l m.1|some f=>a1d l m.1 f) ?_
  cases m.2 with
  | none=>exact b33 h _
  | some f=>exact a4V h _ _
theorem a3A{l:List (Nm×Nat)}(ms:List (List Mv))(h:(l.map (·.1)).Nodup):((ms.foldl D5 l).map (·.1)).Nodup:=by
 induction ms generalizing l with
 | nil=>exact h
 | cons m ms ih=>exact ih (a0V m h)
def D.file(d:D)(n:Nm):Option (List UInt8):=(F5 d.now n).map fun x=>(d.node x).data
abbrev Fl:=List (Nm×List UInt8)
def D.files(d:D):Fl:=d.list.map fun n=>(n,(d.file n).getD [])
theorem a2J(d:D)(n:Nm):n∈d.list<->n∈d.now.map (·.1):=List.mem_mergeSort
theorem a8b{d:D}(h:(d.now.map (·.1)).Nodup):d.list.Nodup:=((List.mergeSort_perm _ _).nodup_iff).2 h
theorem b2j(d:D):d.files.map (·.1)=d.list:=by unfold D.files;rw[List.map_map];exact List.map_id _
theorem a4P(d:D)(n:Nm):F5 d.files n=d.file n:=by
 cases e:d.file n with
 | none=>
  rw[O7,b2j,a2J,<-O7];unfold D.file at e
  exact Option.map_eq_none_iff.1 e
 | some b=>
  have hm:n∈d.list:=by
   rw[a2J];exact Classical.byContradiction fun h=>by
    unfold D.file at e;rw[O7.2 h] at e;cases e
  unfold D.files;generalize d.list=l at hm
  induction l with
  | nil=>cases hm
  | cons m l ih=>
   rw[List.map_cons,a0c];by_cases h:m=n
   ·rw[if_pos h,h,e];rfl
   ·rw[if_neg h];refine ih ?_;rcases List.mem_cons.1 hm with h'|h'
    ·exact absurd h'.symm h
    ·exact h'
def D.Calm(d:D):Prop:=d.wait=0/\d.bad=0
theorem D.Calm.fails{d:D}(h:d.Calm):d.fails=(false,d):=by
 unfold D.fails;rw[if_neg (by have:=h.1;omega),if_neg (by have:=h.2;omega)]
theorem D.Calm.find{d:D}(h:d.Calm)(n:Nm):d.find n=match F5 d.now n with|none=>(none,.file 11 n,d)|some x=>(some x,.ok,d):=by
 unfold D.find;rw[h.fails];rfl
theorem D.Calm.size{d:D}(h:d.Calm)(n:Nm):d.size n=match d.file n with|none=>(0,.file 11 n,d)|some b=>(b.length,.ok,d):=by
 unfold D.size D.file;rw[h.find];cases F5 d.now n<;>rfl
theorem b2k(l:List UInt8):part l 0 l.length=l:=by unfold part;simp
theorem D.Calm.readAt{d:D}(h:d.Calm)(n:Nm)(i k:Int):d.readAt n i k=match d.file n with|none=>([],.file 11 n,d)|some b=>(part b i k,.ok,d):=by
 unfold D.readAt D.file;rw[h.find];cases F5 d.now n<;>rfl
theorem D.Calm.remove{d:D}(h:d.Calm){n:Nm}(hn:n∈d.now.map (·.1)):d.remove n=(.ok,d.mv [(n,none)]):=by
 unfold D.remove;rw[h.find]
 cases e:F5 d.now n with
 | none=>exact absurd hn (O7.1 e)
 | some x=>rfl
theorem D.Calm.mv{d:D}(h:d.Calm)(l:List Mv):(d.mv l).Calm:=h
theorem D.Calm.syncDir{d:D}(h:d.Calm):d.syncDir=(.ok,{d with safe:=d.moves.foldl D5 d.safe,moves:=[]}):=by
 unfold D.syncDir;rw[h.fails];rfl
def H9:Nm:=[109,97,110,105,102,101,115,116]
def J8:Nm:=[100,97,116,97,45]
def a8c:Nm:=[104,105,110,116,45]
def digit(k:Nat):UInt8:=UInt8.ofNat (48+k%10)
def G5(kind:Nm)(k:Nat):Nm:=kind++[digit (k/100000),digit (k/10000),digit (k/1000),digit (k/100),digit (k/10),digit k]
def c4j(b:UInt8):Bool:=decide (48<=b.toNat/\b.toNat<=57)
def c5o(kind n:Nm):Bool:=decide (n.length=kind.length+6)&&(decide (n.take kind.length=kind)&&(n.drop kind.length).all c4j)
def c1j(ids:List Int)(n:Nm):Bool:=ids.any fun k=>decide (G5 J8 k.toNat=n)
def a2K(ids:List Int)(n:Nm):Bool:=decide (n=H9)||(c1j ids n||c5o a8c n)
def D.whole(d:D)(n:Nm):List UInt8×Er×D:=
 match d.size n with
 | (k,.ok,d1)=>d1.readAt n 0 k
 | (_,e,d1)=>([],e,d1)
def D.readMan(d:D):Option (Nat×List Int)×Er×D:=
 match d.whole H9 with
 | (b,.ok,d1)=>(match Go.Proofs.YtgpbhjjajpbeeaaGreatDoor.readMan b with|some r=>(some r,.ok,d1)|none=>(none,.num 6,d1))
 | (_,e,d1)=>(none,if e.code=11 then .num 5 else e,d1)
def D.removeAll(d:D):List Nm->Er×D
 | []=>(.ok,d)
 | n::l=>match d.remove n with|(.ok,d1)=>d1.removeAll l|(e,d1)=>(e,d1)
def D.sweep(d:D)(ids:List Int):Er×D:=
 match d.removeAll (d.list.filter fun n=>!a2K ids n) with
 | (.ok,d1)=>d1.syncDir
 | (e,d1)=>(e,d1)
def D.clean(d:D):Er×D:=
 match d.readMan with
 | (some r,_,d1)=>d1.sweep r.2
 | (none,e,d1)=>(e,d1)
theorem D.Calm.whole{d:D}(h:d.Calm)(n:Nm):d.whole n=match d.file n with|none=>([],.file 11 n,d)|some b=>(b,.ok,d):=by
 unfold D.whole;rw[h.size]
 cases e:d.file n with
 | none=>rfl
 | some b=>simp only[h.readAt,e,b2k]
theorem D.Calm.readMan{d:D}(h:d.Calm):d.readMan=match d.file H9 with|none=>(none,.num 5,d)|some b=>(match Go.Proofs.YtgpbhjjajpbeeaaGreatDoor.readMan b with|some r=>(some r,.ok,d)|none=>(none,.num 6,d)):=by
 unfold D.readMan;rw[h.whole]
 cases e:d.file H9 with
 | none=>rfl
 | some b=>rfl
theorem D.Calm.removeAll{d:D}(h:d.Calm)(l:List Nm)(hn:l.Nodup)(hl:∀n∈l,n∈d.now.map (·.1)):
 d.removeAll l=(.ok,{d with now:=D5 d.now (l.map fun n=>(n,none)),moves:=d.moves++l.map fun n=>[(n,none)]}):=by
 induction l generalizing d with
 | nil=>simp[D.removeAll,D5]
 | cons n l ih=>
  rw[List.nodup_cons] at hn;have hm:=hl n (by simp);unfold D.removeAll;rw[h.remove hm];show(d.mv [(n,none)]).removeAll l=_;rw[ih (h.mv _) hn.2 fun m hm'=>?_]
  ·simp[D.mv,D5]
  ·have h1:=hl m (by simp[hm']);have hne:m≠n:=fun e=>hn.1 (e▸hm');show m∈(D5 d.now [(n,none)]).map (·.1);refine Classical.byContradiction fun hc=>?_;have e:F5 (D5 d.now [(n,none)]) m=none:=O7.2 hc;have e2:F5 (a3k d.now n) m=none:=e;rw[a4j,if_neg hne,O7] at e2;exact e2 h1
theorem b6j(l:List (Nm×Nat))(ns:List Nm)(n:Nm):F5 (D5 l (ns.map fun n=>(n,none))) n=if n∈ns then none else F5 l n:=by
 induction ns generalizing l with
 | nil=>simp[D5]
 | cons m ns ih=>
  show F5 (D5 (a3k l m) (ns.map fun n=>(n,none))) n=_;rw[ih,a4j];by_cases h1:n∈ns
  ·simp[h1]
  ·by_cases h2:n=m
   ·simp[h2]
   ·simp[h1,h2]
theorem b2l(l:List (Nm×Nat))(ns:List Nm):(ns.map fun n=>[(n,(none:Option Nat))]).foldl D5 l=D5 l (ns.map fun n=>(n,none)):=by
 induction ns generalizing l with
 | nil=>rfl
 | cons m ns ih=>
  show List.foldl D5 (D5 l [(m,none)]) _=_;rw[ih];rfl
structure D.Safe(d:D):Prop where
 calm:d.Calm
 moves:d.moves=[]
 same:a4k d.safe d.now
 nodup:(d.now.map (·.1)).Nodup
 nodup':(d.safe.map (·.1)).Nodup
 nodes:∀p∈d.safe,(d.node p.2).safe=(d.node p.2).data.length
theorem D.Safe.sweep{d:D}(h:d.Safe)(ids:List Int):
 ∃e:D,d.sweep ids=(.ok,e)/\e.Safe/\(∀n,e.file n=if a2K ids n=true then d.file n else none)/\e.ids=d.ids/\e.room=d.room/\e.node=d.node:=by
 obtain⟨l,hl⟩:∃l,d.list.filter (fun n=>!a2K ids n)=l:=⟨_,rfl⟩;have hmem:∀n,n∈l<->n∈d.now.map (·.1)/\a2K ids n=false:=by
  intro n;rw[<-hl,List.mem_filter,a2J];simp
 have hnd:l.Nodup:=hl▸(a8b h.nodup).filter _;have hr:=h.calm.removeAll l hnd fun n hn=>((hmem n).1 hn).1;have hE:d.sweep ids=(.ok,{d with now:=D5 d.now (l.map fun n=>(n,none)),safe:=D5 d.safe (l.map fun n=>(n,none)),moves:=[]}):=by
  unfold D.sweep;rw[hl,hr];show D.syncDir _=_;rw[D.Calm.syncDir (d:={d with now:=D5 d.now (l.map fun n=>(n,none)),moves:=d.moves++l.map fun n=>[(n,none)]}) h.calm];simp[h.moves,b2l]
 refine⟨_,hE,⟨h.calm,rfl,a4D _ h.same,a0V _ h.nodup,a0V _ h.nodup',?_⟩,?_,rfl,rfl,rfl⟩
 ·intro p hp;refine h.nodes p ?_;rcases a0Y hp with hp|⟨x,hx,e⟩
  ·exact hp
  ·obtain⟨n,_,rfl⟩:=List.mem_map.1 hx;cases e
 ·intro n;show(F5 (D5 d.now (l.map fun n=>(n,none))) n).map _=_;rw[b6j];by_cases hk:a2K ids n=true
  ·rw[if_neg (fun hn=>by rw[((hmem n).1 hn).2] at hk;cases hk),if_pos hk];rfl
  ·rw[if_neg hk];by_cases hn:n∈l
   ·rw[if_pos hn];rfl
   ·rw[if_neg hn];have:n∉d.now.map (·.1):=fun hc=>hn ((hmem n).2 ⟨hc,by simpa using hk⟩);rw[O7.2 this];rfl
end Dk
end
section
open Go.RowKit Go.Lib Go.Maps Dk Pl
theorem a8n(d:D)(n:Nm):(d.size n).2.2.ids=d.ids/\(d.size n).2.2.node=d.node/\(d.size n).2.2.now=d.now/\((d.size n).2.1≠.ok->(d.size n).1=0/\∃k,(d.size n).2.1=.file k n)/\
 ((d.size n).2.1=.ok->∃x,(x∈d.now.map Prod.snd)/\(d.size n).1=((d.node x).data.length:Nat)):=by
 have hm:=a3g d n
 cases hx:(d.find n).1 with
 | none=>
  obtain⟨k,hk⟩:=a8e d n hx;rw[a5n hx]
  exact⟨hm.2.2.1,hm.2.2.2.1,hm.2.1,fun _=>⟨rfl,k,hk⟩,fun h=>by dsimp only at h;rw[hk] at h;cases h⟩
 | some x=>
  rw[a7N hx];refine⟨hm.2.2.1,hm.2.2.2.1,hm.2.1,fun h=>absurd rfl h,fun _=>⟨x,?_,by rw[hm.2.2.2.1]⟩⟩;unfold D.find at hx;split at hx
  ·cases hx
  ·split at hx
   ·cases hx
   ·rename_i y hy;injection hx with hx;subst hx;exact List.mem_map.2 ⟨_,a0N hy,rfl⟩
theorem b0g(F:Nat->Prop)(a:Nat)(d:D)(name:Nm)(w:World)(h:A8 w F a d)(hn:name.length<=maxLen)(hds:∀x∈d.ids,(d.node x).data.length<=35184372088832):
 Calls Tryz.prog 55 #[y8 a,strV name] w (b1a F a (d.whole name) w):=by
 have hsize:=size_any F a d name w h hn;have hsf:=a8n d name;have hwf:=h.wf;obtain⟨⟨k,er,d1⟩,hr⟩:∃r,d.size name=r:=⟨_,rfl⟩;have hw:(er=.ok->d.whole name=d1.readAt name 0 k)/\(er≠.ok->d.whole name=([],er,d1)):=by
  unfold D.whole;rw[hr];cases er
  ·exact⟨fun _=>rfl,fun h=>absurd rfl h⟩
  ·exact⟨fun h=>(by cases h),fun _=>rfl⟩
  ·exact⟨fun h=>(by cases h),fun _=>rfl⟩
 rw[hr] at hsize hsf;dsimp only at hsf;have HS:=Lib.hid hsize;have HW:=Lib.hid hw;clear hsize hw hr h;unfold y8 strV at *;go_enter Tryz.func55,Tryz.ntmps55
 go_wp2_with fail
 refine HS.out.mono ?_;rintro e w1 ⟨v,rfl,hv,hD,hC⟩
 cases er with
 | ok=>
  obtain rfl:v=.nilIface:=hv.get;obtain⟨x,hx,hk⟩:=hsf.2.2.2.2 rfl;obtain⟨p,hp,rfl⟩:=List.mem_map.1 hx;have hkl:=hds _ (hwf.now p hp);have hrd:=a8g F a d1 name 0 k w1 hD hn (by omega) (by omega) (fun x hx=>by rw[hsf.2.1];rw[hsf.1] at hx;have:=hds x hx;omega);have HR:=Lib.hid hrd;have HC:=Lib.hid hC;clear hrd hC hD hv hsf hk hx hp;unfold y8 strV at HR;go_wp2_with fail
  refine HR.out.mono ?_;rintro e w2 ⟨u,v2,rfl,hB,hv2,hD2,hC2,hfl⟩;have hfin:b1a F a (d.whole name) w (.returned (.tuple #[u,v2])) w2:=by
   rw[HW.out.1 (by trivial)];exact⟨u,v2,rfl,O8 hB HC.out.size,hv2,hD2,HC.out.trans hC2,hfl⟩
  have HF:=Lib.hid hfin;clear hfin hB hv2 hD2 hC2;go_wp2;go_ret2
  exact HF.out
 | num m=>
  obtain⟨_,j,hj⟩:=hsf.2.2.2.1 (by simp)
  cases hj
 | file m nm=>
  obtain⟨b,hvb,-⟩:=hv.get;subst hvb;have hfin:b1a F a (d.whole name) w (.returned (.tuple #[.slice none 0 0,.iface 132 (.pointer (some ⟨b,0,none⟩))])) w1:=by
   rw[HW.out.2 (by simp)];exact⟨_,_,rfl,⟨rfl,Or.inl ⟨rfl,rfl⟩⟩,hv,hD,hC,a18.nil _ _ _⟩
  have HF:=Lib.hid hfin;clear hfin hv hD hC hsf;go_wp2;go_ret2
  exact HF.out
theorem b2B{w:World}{b:Nat}{x0 x1:Value}(h:o7 w b 125 #[x0,x1])(g:Int)(v:Value):
 w.frozen? ⟨b,0,none⟩=false/\(w.setCell ⟨b,0,none⟩ (.int .u64 g)).cell? ⟨b,1,none⟩=some x1/\(w.setCell ⟨b,0,none⟩ (.int .u64 g)).frozen? ⟨b,1,none⟩=false/\
 ((w.setCell ⟨b,0,none⟩ (.int .u64 g)).setCell ⟨b,1,none⟩ v).cell? ⟨b,0,none⟩=some (.int .u64 g)/\((w.setCell ⟨b,0,none⟩ (.int .u64 g)).setCell ⟨b,1,none⟩ v).cell? ⟨b,1,none⟩=some v:=by
 have h1:=h.set 0 (.int .u64 g);have h2:=h1.set 1 v;refine⟨h.free 0,?_,h1.free 1,?_,?_⟩
 ·rw[h1.cell];simp
 ·rw[h2.cell];simp
 ·rw[h2.cell];simp
def c5q(F:Nat->Prop)(a:Nat)(r:Option (Nat×List Int)×Er×D)(w:World)(e:Ending)(w':World):Prop:=
 ∃g v y,e=.returned (.tuple #[.agg #[.int .u64 g,v],y])/\A8 w' F a r.2.2/\Chg F F w w'/\
  ((r.1=none/\g=0/\v=.slice none 0 0/\r.2.1≠.ok/\Held w' F (fun W=>ErrAt W y r.2.1))\/(∃gen ids,r.1=some (gen,ids)/\r.2.1=.ok/\g=(gen:Int)/\y=.nilIface/\OwnI w' w.heap.size v ids))
theorem b0h{w:World}{F:Nat->Prop}{v:Value}{m:Int}{nm:Nm}(h:Held w F (fun W=>ErrAt W v (.file m nm))):∃b,v=.iface 132 (.pointer (some ⟨b,0,none⟩))/\o7 w b 134 #[strV nm,.int .i64 m]/\¬F b:=by
 obtain⟨b,rfl,hb⟩:=h.get;refine⟨b,rfl,hb,fun hF=>?_⟩;obtain⟨S,h1,h2⟩:=h;obtain⟨b',e,hb'⟩:=h2 {w with heap:=w.heap.setIfInBounds b (.map #[] 0)} fun k hk=>by
  have hne:b≠k:=fun e=>(h1 k hk).2 (e▸hF);show(w.heap.setIfInBounds b _)[k]?=_;rw[Array.getElem?_setIfInBounds_ne hne]
 injection e with _ e;injection e with e;injection e with e;injection e with e;subst e;have h3:(w.heap.setIfInBounds b (.map #[] 0))[b]?=some (.cells #[strV nm,.int .i64 m] 134):=hb';rw[Array.getElem?_setIfInBounds_self_of_lt hb.lt] at h3;cases h3
theorem b2C(d:D)(n:Nm):(d.whole n).2.1=.ok\/∃k,(d.whole n).2.1=.file k n:=by
 have hs:=a8n d n;unfold D.whole;obtain⟨⟨k,er,d1⟩,hr⟩:∃r,d.size n=r:=⟨_,rfl⟩;rw[hr] at hs⊢;dsimp only at hs⊢
 cases er with
 | ok=>
  dsimp only
  cases hx:(d1.find n).1 with
  | none=>
   obtain⟨j,hj⟩:=a8e d1 n hx;rw[a3h hx]
   exact .inr ⟨j,hj⟩
  | some x=>rw[a4l hx];exact .inl rfl
 | num m=>
  obtain⟨_,j,hj⟩:=hs.2.2.2.1 (by simp)
  cases hj
 | file m nm=>
  obtain⟨_,j,hj⟩:=hs.2.2.2.1 (by simp);injection hj with h1 h2;subst h2;exact .inr ⟨m,rfl⟩
theorem b1f(F:Nat->Prop)(a:Nat)(d:D)(w:World)(h:A8 w F a d)(hds:∀x∈d.ids,(d.node x).data.length<=35184372088832):
 Calls Tryz.prog 54 #[y8 a] w (c5q F a d.readMan w):=by
 have hx0:o7 (w.alloc (.cells #[.int .u64 0,.slice none 0 0] 125)) w.heap.size 125 #[.int .u64 0,.slice none 0 0]:=o7.new _ _ rfl;have hE0:Ext w (w.alloc (.cells #[.int .u64 0,.slice none 0 0] 125)):=(Ext.refl w).new _;have hwh:=b0g F a d H9 _ (h.ext hE0) (by unfold H9 maxLen;simp) hds;have hlow:=h.low;obtain⟨⟨bs,er,d1⟩,hr⟩:∃r,d.whole H9=r:=⟨_,rfl⟩;have hrm:(er=.ok->d.readMan=match readMan bs with|some r=>(some r,.ok,d1)|none=>(none,.num 6,d1))/\(er≠.ok->d.readMan=(none,if er.code=11 then .num 5 else er,d1)):=by
  unfold D.readMan;rw[hr];cases er
  ·exact⟨fun _=>rfl,fun h=>absurd rfl h⟩
  ·exact⟨fun h=>(by cases h),fun _=>rfl⟩
  ·exact⟨fun h=>(by cases h),fun _=>rfl⟩
 have hcl:=b2C d H9;rw[hr] at hcl;rw[hr] at hwh;have HW:=Lib.hid hwh;have HR:=Lib.hid hrm;have HX:=Lib.hid hx0;have HE:=Lib.hid hE0;have HL:=Lib.hid hlow;clear hwh hrm hr hx0 hE0 hlow h;unfold y8 strV at *;unfold H9 at HW;go_enter Tryz.func54,Tryz.ntmps54
 go_wp2_with fail
 refine HW.out.mono ?_;rintro e w1 ⟨u,v,rfl,hB,hv,hD,hC,-⟩;have hxb:=HX.out;have hx1:o7 w1 w.heap.size 125 #[.int .u64 0,.slice none 0 0]:=(hC.block _ hxb.lt (fun hF=>by have:=HL.out _ hF;omega)).trans hxb;have hC1:=(Chg.ext (F:=F) HE.out).trans hC;have his:=b8W er v 11 w1 hv.get (by omega);have hsz1:w.heap.size<=w1.heap.size:=hC1.size;have hby:=hB.bytes;have c0:=(hx1.cell 0).trans (show _=some (Value.int .u64 0) from rfl);have c1:=(hx1.cell 1).trans (show _=some (Value.slice none 0 0) from rfl);have f0:=hx1.free 0;have f1:=hx1.free 1;have HIS:=Lib.hid his;have HX1:=Lib.hid hx1;have HC:=Lib.hid hC1;have HV:=Lib.hid hv;have HD:=Lib.hid hD;have HBY:=Lib.hid hby;clear his hx1 hC1 hC hD hby HX HW;unfold Y5 at HIS
 cases er with
 | ok=>
  obtain rfl:v=.nilIface:=HV.out.get;have hrm:=b1B u bs w1 HBY.out;have HRM:=Lib.hid hrm;clear hrm hv hB;go_wp2_with fail
  refine HIS.out.mono ?_;rintro e w2 ⟨rfl,rfl⟩;go_wp2_with fail
  refine HRM.out.mono ?_;rintro e w3 ⟨g,v3,y,rfl,hE3,hcase⟩;have hx3:o7 w3 w.heap.size 125 #[.int .u64 0,.slice none 0 0]:=(hE3.block _ HX1.out.lt).trans HX1.out;have d0:=(hx3.cell 0).trans (show _=some (Value.int .u64 0) from rfl);have d1':=(hx3.cell 1).trans (show _=some (Value.slice none 0 0) from rfl);obtain⟨z1,z2,z3,z4,z5⟩:=b2B hx3 g v3;have hD3:=HD.out.ext hE3;have hC3:=HC.out.trans (Chg.ext hE3);have hlowb:∀b,F b->b≠w.heap.size:=fun b hb=>by have:=HL.out b hb;omega
  have hO:=((Off.refl w.heap.size w3).setCell 0 (.int .u64 g)).setCell 1 v3;have hD4:=hD3.frame (fun b hb=>hO.block b (hlowb b hb)) (Nat.le_of_eq hO.size.symm);have hC4:Chg F F w ((w3.setCell ⟨w.heap.size,0,none⟩ (.int .u64 g)).setCell ⟨w.heap.size,1,none⟩ v3):=
   ⟨hO.os.trans hC3.os,hO.tape.trans hC3.tape,hO.output.trans hC3.output,by rw[hO.size];exact hC3.size,fun b hb hF=>(hO.block b (by omega)).trans (hC3.block b hb hF),fun b hb=>.inl hb⟩
  have HD4:=Lib.hid hD4;have HC4:=Lib.hid hC4;have HO:=Lib.hid hO;have HX3:=Lib.hid hx3;clear hD3 hC3 hD4 hC4 hO hx3 hlowb HD HC HV HRM HIS;rcases hcase with⟨hno,rfl,rfl,rfl⟩|⟨gen,ids,hso,rfl,rfl,hown⟩
  ·have hrd:d.readMan=(none,.num 6,d1):=by rw[HR.out.1 (by trivial),hno]
   have HRD:=Lib.hid hrd;clear hrd hno HR;unfold Y5;go_wp2;refine bodyPost_ret (v:=.tuple #[.agg #[.int .u64 0,.slice none 0 0],Y5 6]) (by simp[results,Tryz.results54,go_sem,z4,z5,Y5]) rfl ⟨0,_,_,rfl,?_,?_,Or.inl ⟨?_,rfl,rfl,?_,?_⟩⟩
   ·rw[HRD.out];exact HD4.out
   ·exact HC4.out
   ·rw[HRD.out]
   ·rw[HRD.out];simp
   ·rw[HRD.out];exact b2o _ _ _
  ·obtain⟨ia,ic,hv3⟩:=ownsRow_form hown;subst hv3;have hrd:d.readMan=(some (gen,ids),.ok,d1):=by rw[HR.out.1 (by trivial),hso]
   have HRD:=Lib.hid hrd;have HOWN:=Lib.hid hown;clear hrd hso HR hown;go_wp2;refine bodyPost_ret (v:=.tuple #[.agg #[.int .u64 gen,.slice ia ids.length ic],.nilIface]) (by simp[results,Tryz.results54,go_sem,z4,z5]) rfl ⟨_,_,_,rfl,?_,?_,Or.inr ⟨gen,ids,?_,?_,rfl,rfl,?_⟩⟩
   ·rw[HRD.out];exact HD4.out
   ·exact HC4.out
   ·rw[HRD.out]
   ·rw[HRD.out]
   ·have hne:=F9 HOWN.out HX3.out (by decide)
    exact O8 (Dep.row HOWN.out _ fun b hb=>HO.out.block b fun e=>hne (e▸hb)) hsz1
 | num m=>rcases hcl with h|⟨_,h⟩<;>cases h
 | file m nm=>
  obtain⟨fb,hvb,hfbb,hfbF⟩:=b0h HV.out;subst hvb;obtain⟨z1,z2,z3,z4,z5⟩:=b2B HX1.out 0 (.slice none 0 0);have hlowb:∀b,F b->b≠w.heap.size:=fun b hb=>by have:=HL.out b hb;omega
  have hO:=((Off.refl w.heap.size w1).setCell 0 (.int .u64 0)).setCell 1 (.slice none 0 0);have hD4:=HD.out.frame (fun b hb=>hO.block b (hlowb b hb)) (Nat.le_of_eq hO.size.symm);have hC4:Chg F F w ((w1.setCell ⟨w.heap.size,0,none⟩ (.int .u64 0)).setCell ⟨w.heap.size,1,none⟩ (.slice none 0 0)):=
   ⟨hO.os.trans HC.out.os,hO.tape.trans HC.out.tape,hO.output.trans HC.out.output,by rw[hO.size];exact HC.out.size,fun b hb hF=>(hO.block b (by omega)).trans (HC.out.block b hb hF),fun b hb=>.inl hb⟩
  have hfne:fb≠w.heap.size:=fun e=>by
   subst e;have h3:=HX1.out;unfold o7 at h3 hfbb;rw[h3] at hfbb;injection hfbb with hfbb;injection hfbb with h4 h5 h6;revert h5;decide
  have hH4:Held ((w1.setCell ⟨w.heap.size,0,none⟩ (.int .u64 0)).setCell ⟨w.heap.size,1,none⟩ (.slice none 0 0)) F (fun W=>ErrAt W (.iface 132 (.pointer (some ⟨fb,0,none⟩))) (.file m nm)):=
   (Held.box ((hO.block fb hfne).trans hfbb) hfbF).mono fun W hW=>⟨_,rfl,hW⟩
  by_cases hm:m=11
  ·subst hm;have hrd:d.readMan=(none,.num 5,d1):=HR.out.2 (by simp);have HD4:=Lib.hid hD4;have HC4:=Lib.hid hC4;have HRD:=Lib.hid hrd;clear hD4 hC4 hrd hlowb hO HD HC HR hv hB HBY hH4 hfbb hfbF hfne;have hd:decide (Er.code (.file 11 nm)=11)=true:=rfl;rw[hd] at HIS;clear hd;go_wp2_with fail
   refine HIS.out.mono ?_;rintro e w2 ⟨rfl,rfl⟩;go_wp2;refine bodyPost_ret (v:=.tuple #[.agg #[.int .u64 0,.slice none 0 0],Y5 5]) (by simp[results,Tryz.results54,go_sem,z4,z5,Y5]) rfl ⟨0,_,_,rfl,?_,?_,Or.inl ⟨?_,rfl,rfl,?_,?_⟩⟩
   ·rw[HRD.out];exact HD4.out
   ·exact HC4.out
   ·rw[HRD.out]
   ·rw[HRD.out];simp
   ·rw[HRD.out];exact b2o _ _ _
  ·have hrd:d.readMan=(none,.file m nm,d1):=by
    have:=HR.out.2 (by simp);rw[this];simp[Er.code,hm]
   have HD4:=Lib.hid hD4;have HC4:=Lib.hid hC4;have HRD:=Lib.hid hrd;have HH4:=Lib.hid hH4;clear hD4 hC4 hrd hlowb hO HD HC HR hv hB HBY hH4 hfbb hfbF hfne;have hd:decide (Er.code (.file m nm)=11)=false:=decide_eq_false hm;rw[hd] at HIS;clear hd;go_wp2_with fail
   refine HIS.out.mono ?_;rintro e w2 ⟨rfl,rfl⟩;go_wp2;refine bodyPost_ret (v:=.tuple #[.agg #[.int .u64 0,.slice none 0 0],.iface 132 (.pointer (some ⟨fb,0,none⟩))]) (by simp[results,Tryz.results54,go_sem,z4,z5,Y5]) rfl ⟨0,_,_,rfl,?_,?_,Or.inl ⟨?_,rfl,rfl,?_,?_⟩⟩
   ·rw[HRD.out];exact HD4.out
   ·exact HC4.out
   ·rw[HRD.out]
   ·rw[HRD.out];simp
   ·rw[HRD.out];exact HH4.out
end
end Go.Proofs.YtgpbhjjajpbeeaaGreatDoor
namespace Go.Proofs
section
open Go.Shelf
def Tryz.laysM246_ren:Go.Shelf.Ren:=⟨fun|246=>174|283=>202|284=>203|285=>204|286=>205|129=>190|317=>218|318=>219|319=>220|320=>221|337=>226|338=>227|n=>n,fun|2=>2|3=>3|9=>9|4=>4|171=>337|0=>0|53=>24|37=>25|5=>5|173=>339|212=>353|51=>147|20=>20|213=>354|46=>56|232=>367|233=>368|n=>n,fun|17=>1|18=>5|19=>6|n=>n⟩
def Tryz.laysM243_ren:Go.Shelf.Ren:=⟨fun|243=>150|246=>174|283=>202|284=>203|285=>204|286=>205|129=>190|317=>218|318=>219|319=>220|320=>221|337=>226|338=>227|n=>n,fun|3=>3|9=>9|2=>2|4=>4|171=>337|0=>0|53=>24|37=>25|5=>5|173=>339|212=>353|51=>147|20=>20|213=>354|46=>56|232=>367|233=>368|n=>n,fun|17=>1|18=>5|19=>6|n=>n⟩
def Tryz.laysM171_ren:Go.Shelf.Ren:=⟨fun|171=>95|243=>150|246=>174|283=>202|284=>203|285=>204|286=>205|129=>190|317=>218|318=>219|319=>220|320=>221|337=>226|338=>227|n=>n,fun|3=>3|9=>9|2=>2|4=>4|171=>337|0=>0|53=>24|37=>25|5=>5|173=>339|212=>353|51=>147|20=>20|213=>354|46=>56|232=>367|233=>368|n=>n,fun|17=>1|18=>5|19=>6|n=>n⟩
theorem Tryz.laysM171:Go.Proofs.LaysM.n171 Tryz.prog Tryz.laysM171_ren:={
 mixed:=by kernel_rfl
 f129:=Tryz.func190.trans (congrArg some (by kernel_rfl))
 f171:=Tryz.func95.trans (congrArg some (by kernel_rfl))
 f243:=Tryz.func150.trans (congrArg some (by kernel_rfl))
 f246:=Tryz.func174.trans (congrArg some (by kernel_rfl))
 f283:=Tryz.func202.trans (congrArg some (by kernel_rfl))
 f284:=Tryz.func203.trans (congrArg some (by kernel_rfl))
 f285:=Tryz.func204.trans (congrArg some (by kernel_rfl))
 f286:=Tryz.func205.trans (congrArg some (by kernel_rfl))
 f317:=Tryz.func218.trans (congrArg some (by kernel_rfl))
 f318:=Tryz.func219.trans (congrArg some (by kernel_rfl))
 f319:=Tryz.func220.trans (congrArg some (by kernel_rfl))
 f320:=Tryz.func221.trans (congrArg some (by kernel_rfl))
 f337:=Tryz.func226.trans (congrArg some (by kernel_rfl))
 f338:=Tryz.func227.trans (congrArg some (by kernel_rfl))
 t0:=Tryz.underlying0
 a0:=Tryz.isAgg0
 z0:=Tryz.sizeOf0
 v0:=Tryz.zeroValue0
 t2:=Tryz.underlying2
 a2:=Tryz.isAgg2
 z2:=Tryz.sizeOf2
 v2:=Tryz.zeroValue2
 t3:=Tryz.underlying3
 a3:=Tryz.isAgg3
 z3:=Tryz.sizeOf3
 v3:=Tryz.zeroValue3
 t4:=Tryz.underlying4
 a4:=Tryz.isAgg4
 z4:=Tryz.sizeOf4
 v4:=Tryz.zeroValue4
 t5:=Tryz.underlying5
 a5:=Tryz.isAgg5
 z5:=Tryz.sizeOf5
 v5:=Tryz.zeroValue5
 t9:=Tryz.underlying9
 a9:=Tryz.isAgg9
 z9:=Tryz.sizeOf9
 v9:=Tryz.zeroValue9
 t20:=Tryz.underlying20
 a20:=Tryz.isAgg20
 z20:=Tryz.sizeOf20
 v20:=Tryz.zeroValue20
 t37:=Tryz.underlying25
 a37:=Tryz.isAgg25
 z37:=Tryz.sizeOf25
 v37:=Tryz.zeroValue25
 t46:=Tryz.underlying56
 a46:=Tryz.isAgg56
 z46:=Tryz.sizeOf56
 v46:=Tryz.zeroValue56
 t51:=Tryz.underlying147
 a51:=Tryz.isAgg147
 z51:=Tryz.sizeOf147
 v51:=Tryz.zeroValue147
 t53:=Tryz.underlying24
 a53:=Tryz.isAgg24
 z53:=Tryz.sizeOf24
 v53:=Tryz.zeroValue24
 t171:=Tryz.underlying337
 a171:=Tryz.isAgg337
 z171:=Tryz.sizeOf337
 v171:=Tryz.zeroValue337
 t173:=Tryz.underlying339
 a173:=Tryz.isAgg339
 z173:=Tryz.sizeOf339
 v173:=Tryz.zeroValue339
 t212:=Tryz.underlying353
 a212:=Tryz.isAgg353
 z212:=Tryz.sizeOf353
 v212:=Tryz.zeroValue353
 t213:=Tryz.underlying354
 a213:=Tryz.isAgg354
 z213:=Tryz.sizeOf354
 t232:=Tryz.underlying367
 a232:=Tryz.isAgg367
 z232:=Tryz.sizeOf367
 v232:=Tryz.zeroValue367
 t233:=Tryz.underlying368
 a233:=Tryz.isAgg368
 z233:=Tryz.sizeOf368
 v233:=Tryz.zeroValue368
 g17:=by kernel_rfl
 g18:=by kernel_rfl
 g19:=by kernel_rfl
 i0:=by kernel_rfl
 i2:=by kernel_rfl
 i3:=by kernel_rfl
 i4:=by kernel_rfl
 i5:=by kernel_rfl
 i9:=by kernel_rfl
 i20:=by kernel_rfl
 i37:=by kernel_rfl
 i46:=by kernel_rfl
 i51:=by kernel_rfl
 i53:=by kernel_rfl
 i171:=by kernel_rfl
 i173:=by kernel_rfl
 i212:=by kernel_rfl
 i232:=by kernel_rfl
 i233:=by kernel_rfl
 m17:=by kernel_rfl
 m18:=by kernel_rfl
 m19:=by kernel_rfl}
open Go.RowKit Go.Sort Go.Lib in
theorem Tryz.strconv_Itoa(n:Int)(h0:-9223372036854775808<=n)(h1:n<=9223372036854775807)(w:World)(htab:Lib.TabIs Tryz.prog w "internal/strconv.uint64pow10" .u64 Lib.pow10Tab):
 Calls Tryz.prog 95 #[.int .i64 n] w fun e w'=>e=.returned (.string ⟨(Lib.itoa n).toArray⟩)/\∃k os,w'=grow (w.drewN k) os:=Any.strconv_Itoa Tryz.laysM171 n h0 h1 w htab
def Tryz.lays190_ren:Go.Shelf.Ren:=⟨fun|190=>123|125=>165|258=>164|128=>189|129=>190|302=>180|303=>181|304=>182|305=>183|306=>184|307=>185|308=>186|309=>187|310=>188|333=>208|329=>209|330=>210|334=>211|335=>212|336=>213|344=>222|n=>n,fun|31=>73|9=>9|3=>3|46=>56|0=>0|51=>147|53=>24|4=>4|183=>321|182=>320|131=>325|5=>5|218=>343|222=>346|228=>356|229=>357|n=>n,fun|n=>n⟩
theorem Tryz.lays190:Go.Proofs.Lays.n190 Tryz.prog Tryz.lays190_ren:={
 mixed:=by kernel_rfl
 f125:=Tryz.func165.trans (congrArg some (by kernel_rfl))
 f128:=Tryz.func189.trans (congrArg some (by kernel_rfl))
 f129:=Tryz.func190.trans (congrArg some (by kernel_rfl))
 f190:=Tryz.func123.trans (congrArg some (by kernel_rfl))
 f258:=Tryz.func164.trans (congrArg some (by kernel_rfl))
 f302:=Tryz.func180.trans (congrArg some (by kernel_rfl))
 f303:=Tryz.func181.trans (congrArg some (by kernel_rfl))
 f304:=Tryz.func182.trans (congrArg some (by kernel_rfl))
 f305:=Tryz.func183.trans (congrArg some (by kernel_rfl))
 f306:=Tryz.func184.trans (congrArg some (by kernel_rfl))
 f307:=Tryz.func185.trans (congrArg some (by kernel_rfl))
 f308:=Tryz.func186.trans (congrArg some (by kernel_rfl))
 f309:=Tryz.func187.trans (congrArg some (by kernel_rfl))
 f310:=Tryz.func188.trans (congrArg some (by kernel_rfl))
 f329:=Tryz.func209.trans (congrArg some (by kernel_rfl))
 f330:=Tryz.func210.trans (congrArg some (by kernel_rfl))
 f333:=Tryz.func208.trans (congrArg some (by kernel_rfl))
 f334:=Tryz.func211.trans (congrArg some (by kernel_rfl))
 f335:=Tryz.func212.trans (congrArg some (by kernel_rfl))
 f336:=Tryz.func213.trans (congrArg some (by kernel_rfl))
 f344:=Tryz.func222.trans (congrArg some (by kernel_rfl))
 t0:=Tryz.underlying0
 a0:=Tryz.isAgg0
 z0:=Tryz.sizeOf0
 v0:=Tryz.zeroValue0
 t3:=Tryz.underlying3
 a3:=Tryz.isAgg3
 z3:=Tryz.sizeOf3
 v3:=Tryz.zeroValue3
 t4:=Tryz.underlying4
 a4:=Tryz.isAgg4
 z4:=Tryz.sizeOf4
 v4:=Tryz.zeroValue4
 t5:=Tryz.underlying5
 a5:=Tryz.isAgg5
 z5:=Tryz.sizeOf5
 v5:=Tryz.zeroValue5
 t9:=Tryz.underlying9
 a9:=Tryz.isAgg9
 z9:=Tryz.sizeOf9
 v9:=Tryz.zeroValue9
 t31:=Tryz.underlying73
 a31:=Tryz.isAgg73
 z31:=Tryz.sizeOf73
 v31:=Tryz.zeroValue73
 t46:=Tryz.underlying56
 a46:=Tryz.isAgg56
 z46:=Tryz.sizeOf56
 v46:=Tryz.zeroValue56
 t51:=Tryz.underlying147
 a51:=Tryz.isAgg147
 z51:=Tryz.sizeOf147
 v51:=Tryz.zeroValue147
 t53:=Tryz.underlying24
 a53:=Tryz.isAgg24
 z53:=Tryz.sizeOf24
 v53:=Tryz.zeroValue24
 t131:=Tryz.underlying325
 a131:=Tryz.isAgg325
 z131:=Tryz.sizeOf325
 v131:=Tryz.zeroValue325
 t182:=Tryz.underlying320
 a182:=Tryz.isAgg320
 z182:=Tryz.sizeOf320
 v182:=Tryz.zeroValue320
 t183:=Tryz.underlying321
 a183:=Tryz.isAgg321
 z183:=Tryz.sizeOf321
 v183:=Tryz.zeroValue321
 t218:=Tryz.underlying343
 a218:=Tryz.isAgg343
 z218:=Tryz.sizeOf343
 v218:=Tryz.zeroValue343
 t222:=Tryz.underlying346
 a222:=Tryz.isAgg346
 z222:=Tryz.sizeOf346
 v222:=Tryz.zeroValue346
 t228:=Tryz.underlying356
 a228:=Tryz.isAgg356
 z228:=Tryz.sizeOf356
 v228:=Tryz.zeroValue356
 t229:=Tryz.underlying357
 a229:=Tryz.isAgg357
 z229:=Tryz.sizeOf357
 v229:=Tryz.zeroValue357}
open Go.Sort Go.RowKit in
theorem Tryz.slices_Sort_string(blk off cap:Nat)(ss:List (List UInt8))(w:World)(hH:Holds encStr w blk off ss.toArray)(hblk:blk<w.heap.size)(hsz:ss.length<4611686018427387904):
 Calls Tryz.prog 123 #[.slice (some ⟨blk,off,none⟩) ss.length cap] w fun e w'=>
  e=.returned (.tuple #[])/\∃n os,w'=grow (putRow encStr (Sort.ahead w n) blk off (ss.mergeSort fun x y=>decide (x<=y)).toArray) os:=Any.slices_Sort_string Tryz.lays190 blk off cap ss w hH hblk hsz
def Tryz.lays105_ren:Go.Shelf.Ren:=⟨fun|105=>96|212=>151|99=>152|165=>153|166=>154|170=>155|169=>156|263=>175|264=>176|206=>177|240=>178|241=>179|276=>206|277=>207|n=>n,fun|9=>9|3=>3|4=>4|20=>20|0=>0|46=>56|109=>267|5=>5|72=>271|76=>165|51=>147|146=>314|53=>24|148=>316|70=>269|37=>25|75=>34|127=>318|164=>209|80=>273|n=>n,fun|n=>n⟩
theorem Tryz.lays105:Go.Proofs.Lays.n105 Tryz.prog Tryz.lays105_ren:={
 mixed:=by kernel_rfl
 f99:=Tryz.func152.trans (congrArg some (by kernel_rfl))
 f105:=Tryz.func96.trans (congrArg some (by kernel_rfl))
 f165:=Tryz.func153.trans (congrArg some (by kernel_rfl))
 f166:=Tryz.func154.trans (congrArg some (by kernel_rfl))
 f169:=Tryz.func156.trans (congrArg some (by kernel_rfl))
 f170:=Tryz.func155.trans (congrArg some (by kernel_rfl))
 f206:=Tryz.func177.trans (congrArg some (by kernel_rfl))
 f212:=Tryz.func151.trans (congrArg some (by kernel_rfl))
 f240:=Tryz.func178.trans (congrArg some (by kernel_rfl))
 f241:=Tryz.func179.trans (congrArg some (by kernel_rfl))
 f263:=Tryz.func175.trans (congrArg some (by kernel_rfl))
 f264:=Tryz.func176.trans (congrArg some (by kernel_rfl))
 f276:=Tryz.func206.trans (congrArg some (by kernel_rfl))
 f277:=Tryz.func207.trans (congrArg some (by kernel_rfl))
 t0:=Tryz.underlying0
 a0:=Tryz.isAgg0
 z0:=Tryz.sizeOf0
 v0:=Tryz.zeroValue0
 t3:=Tryz.underlying3
 a3:=Tryz.isAgg3
 z3:=Tryz.sizeOf3
 v3:=Tryz.zeroValue3
 t4:=Tryz.underlying4
 a4:=Tryz.isAgg4
 z4:=Tryz.sizeOf4
 v4:=Tryz.zeroValue4
 t5:=Tryz.underlying5
 a5:=Tryz.isAgg5
 z5:=Tryz.sizeOf5
 v5:=Tryz.zeroValue5
 t9:=Tryz.underlying9
 a9:=Tryz.isAgg9
 z9:=Tryz.sizeOf9
 v9:=Tryz.zeroValue9
 t20:=Tryz.underlying20
 a20:=Tryz.isAgg20
 z20:=Tryz.sizeOf20
 v20:=Tryz.zeroValue20
 t37:=Tryz.underlying25
 a37:=Tryz.isAgg25
 z37:=Tryz.sizeOf25
 v37:=Tryz.zeroValue25
 t46:=Tryz.underlying56
 a46:=Tryz.isAgg56
 z46:=Tryz.sizeOf56
 v46:=Tryz.zeroValue56
 t51:=Tryz.underlying147
 a51:=Tryz.isAgg147
 z51:=Tryz.sizeOf147
 v51:=Tryz.zeroValue147
 t53:=Tryz.underlying24
 a53:=Tryz.isAgg24
 z53:=Tryz.sizeOf24
 v53:=Tryz.zeroValue24
 t70:=Tryz.underlying269
 a70:=Tryz.isAgg269
 z70:=Tryz.sizeOf269
 v70:=Tryz.zeroValue269
 t72:=Tryz.underlying271
 a72:=Tryz.isAgg271
 z72:=Tryz.sizeOf271
 v72:=Tryz.zeroValue271
 t75:=Tryz.underlying34
 a75:=Tryz.isAgg34
 z75:=Tryz.sizeOf34
 v75:=Tryz.zeroValue34
 t76:=Tryz.underlying165
 a76:=Tryz.isAgg165
 z76:=Tryz.sizeOf165
 v76:=Tryz.zeroValue165
 t109:=Tryz.underlying267
 a109:=Tryz.isAgg267
 z109:=Tryz.sizeOf267
 v109:=Tryz.zeroValue267
 t127:=Tryz.underlying318
 a127:=Tryz.isAgg318
 z127:=Tryz.sizeOf318
 v127:=Tryz.zeroValue318
 t146:=Tryz.underlying314
 a146:=Tryz.isAgg314
 z146:=Tryz.sizeOf314
 v146:=Tryz.zeroValue314
 t148:=Tryz.underlying316
 a148:=Tryz.isAgg316
 z148:=Tryz.sizeOf316
 v148:=Tryz.zeroValue316
 t164:=Tryz.underlying209
 a164:=Tryz.isAgg209
 z164:=Tryz.sizeOf209
 v164:=Tryz.zeroValue209}
theorem Tryz.Builder_Extra_105:Builder.Extra Tryz.prog Tryz.lays105_ren:={
 sizeBuilder:=by kernel_rfl
 liesBuilder:=by kernel_rfl
 t5:=Tryz.underlying5
 a5:=Tryz.isAgg5
 z5:=Tryz.sizeOf5
 v5:=Tryz.zeroValue5
 infoByte:=by kernel_rfl
 cellsByte:=by kernel_rfl
 sizeByte:=by kernel_rfl
 neB5:=by decide}
open Go.RowKit Go.Lib in
theorem Tryz.strings_Repeat(s:ByteArray)(c:Nat)(w:World)(hc:c<=9223372036854775807)(hlen:s.size*c<=140737488355328):
 Calls Tryz.prog 96 #[.string s,.int .i64 c] w fun e w'=>e=.returned (.string ⟨(Lib.repeatL s.data.toList c).toArray⟩)/\Below w.heap.size w w':=Any.strings_Repeat Tryz.lays105 Tryz.Builder_Extra_105 s c w hc hlen
open Go.RowKit Go.Sort in
theorem Tryz.slices_Sort_string_none(p:Option Addr)(cap:Nat)(w:World):
 Calls Tryz.prog 123 #[.slice p 0 cap] w fun e w'=>e=.returned (.tuple #[])/\w'=w:=Any.slices_Sort_string_none Tryz.lays190 p cap w
end
end Go.Proofs
namespace Go.Proofs.YtgpbhjjajpbeeaaGreatDoor
section
open Go.RowKit Go.Lib Go.Maps Dk
def b2r(w:World)(B:Nat)(v:Value)(l:List Nm):Prop:=w.ownsRow B 9 1 v l.length (l.map strV)
def c3i(d:D)(w:World)(e:Ending)(w':World):Prop:=∃v,e=.returned v/\b2r w' w.heap.size v d.list/\Ext w w'
theorem b8I:(Tryz.prog.info? 9).map (fun i=>(i.zero,i.size,i.bytes))=some (some (.string ⟨#[]⟩),1,16):=by kernel_rfl
theorem a6O{α β:Type}{P:Program}{k:TypeId}{kf:α->Value}{vf:β->Value}{w:World}{r i:Nat}{l vis:List (α×β)}{e:TypeId}{size B:Nat}{v:Value}{n:Nat}{xs:List Value}
 (h:w.ownsRow B e size v n xs)(hr:P9 P k kf vf w i r l vis):v.ownBlock≠some i:=by
 intro hv;obtain⟨es,clock,seen,js,h1,h2,_⟩:=hr;rcases h.2 with⟨rfl,_⟩|⟨g,cap,cur,rfl,hg,hh,_⟩
 ·cases hv
 ·simp[Value.ownBlock] at hv;subst hv;rw[h2] at hh;cases hh
theorem b8J(F:Nat->Prop)(a:Nat)(d:D)(w:World)(h:A8 w F a d)(hnl:d.now.length<=32768):Calls Tryz.prog 66 #[y8 a] w (c3i d w):=by
 obtain⟨m1,m2,mv,gs,dv,hr⟩:=h;obtain⟨i0,hi,hz0,hz1,hz2⟩:=info_parts b8I;have c0:=hr.box.cell 0;obtain⟨w2,hrange,hRA,hExt,hsz2⟩:=hr.now.range Tryz.underlying171;have HR:=Lib.hid hr;have HRA:=Lib.hid hRA;have HEX:=Lib.hid hExt;clear hr hRA hExt;unfold y8;go_enter Tryz.func66,Tryz.ntmps66
 go_wp2;go_loopw [3] (fun i wr=>∃vis,P9 Tryz.prog 9 strV y8 wr w.heap.size m1 d.now vis/\wr.ownsRow w.heap.size 9 1 i vis.length (vis.map fun p=>strV p.1)/\Ext w wr) (fun _ wr=>d.now.length - b1D wr w.heap.size)
 case atStart=>exact⟨[],HRA.out,⟨rfl,Or.inl ⟨rfl,rfl⟩⟩,HEX.out⟩
 case round=>
  obtain⟨vis,hRA,hown,hEx⟩:=hrel;have hvl:=hRA.length;have hseen:=hRA.seen;obtain⟨va,vc,rfl⟩:=ownsRow_form hown;rcases hRA.next 0 with⟨p,w3,hnx,hpm,hRA3,hO3,hent,hvlt⟩|⟨hnx,hperm⟩
  ·have hne:=a6O hown hRA;have hown3:w3.ownsRow w.heap.size 9 1 (.slice va vis.length vc) vis.length (vis.map fun p=>strV p.1):=Dep.row hown w3 fun b hb=>hO3.block b (fun e=>hne (e▸hb));have hne3:=a6O hown3 hRA3;have hEx3:Ext w w3:=hEx.off hO3 (Nat.le_refl _);have hl3:=hRA3.lt;have hm1:(Value.slice va vis.length vc).ownBlock≠some m1:=Q5 hown3 ((HR.out.ext hEx3).now);have hseen3:=hRA3.seen;have HH:=Lib.hid hRA3;have HSN:=Lib.hid hseen;have HSN3:=Lib.hid hseen3;have HE3:=Lib.hid hEx3;have HN3:=Lib.hid hne3;have HL3:=Lib.hid hl3;have HM1:=Lib.hid hm1;clear hRA3 hseen hseen3 hRA hO3 hEx3 hne hne3 hl3 hown hm1 hEx;unfold strV y8 at hnx hent;go_wp2_with (at_builtin;go_must (refine H5 rfl _ _ 73 rfl w.heap.size 9 i0 (.string ⟨#[]⟩) 1 16 Tryz.underlying73 hi hz0 hz1 hz2 rfl (by omega) (.slice va vis.length vc) vis.length _ rfl (hown3.alloc (.cells #[strV p.1] 9)) (.slice (some ⟨w3.heap.size,0,none⟩) 1 1) 1 [strV p.1] rfl ⟨_,_,rfl,by omega,⟨by omega,fun h=>by cases h⟩,fun _=>⟨_,rfl,World.news_of_block (cs:=#[strV p.1]) (t:=9) (fr:=(0,0)) (heap_alloc_new w3 _)⟩⟩ rfl (by simp[Value.oneCell',strV]) (by unfold maxLen;omega) (by omega) (by have:=HE3.out.size;simp;omega) ?_);intro b6 c6 w6 hown6 hgrow6 hat6;have HO6:=Lib.hid hown6;have HG6:=Lib.hid hgrow6;clear hown6 hgrow6 hat6)
   go_roundw
   case rel=>
    have hR6:P9 Tryz.prog 9 strV y8 w6 w.heap.size m1 d.now (vis++[p]):=HH.out.block
     ((HG6.out.block _ (by simp;have:=HL3.out.1;omega) (fun e=>HN3.out e.symm)).trans (heap_alloc_old w3 _ HL3.out.1))
     ((HG6.out.block _ (by simp;have:=HL3.out.2.1;omega) (fun e=>HM1.out e.symm)).trans (heap_alloc_old w3 _ HL3.out.2.1))
    refine⟨vis++[p],hR6,?_,?_⟩
    ·have:=HO6.out;simpa using this
    ·exact Below.grown (HE3.out.new (.cells #[strV p.1] 9)) HG6.out (by have:=HE3.out.size;simp;omega) (fun k hk=>(hown3.lt k hk).1)
   case measure=>
    have hR6:P9 Tryz.prog 9 strV y8 w6 w.heap.size m1 d.now (vis++[p]):=HH.out.block
     ((HG6.out.block _ (by simp;have:=HL3.out.1;omega) (fun e=>HN3.out e.symm)).trans (heap_alloc_old w3 _ HL3.out.1))
     ((HG6.out.block _ (by simp;have:=HL3.out.2.1;omega) (fun e=>HM1.out e.symm)).trans (heap_alloc_old w3 _ HL3.out.2.1))
    rw[HSN.out,hR6.seen];simp;omega
  ·have hvm:(vis.map fun p=>strV p.1)=(vis.map Prod.fst).map strV:=by simp
   have hls:(vis.map Prod.fst).mergeSort leN=d.list:=b6m (hperm.map _);have hlen:d.list.length=vis.length:=by rw[<-hls];simp
   rw[hvm] at hown;have ho:=hown;rcases hown.2 with⟨hnil,h0⟩|⟨g,cap,cur,hgv,hbase,hb,h1,h2,h3,h4⟩
   ·have hs:=Tryz.slices_Sort_string_none va vc wr;have HS:=Lib.hid hs;rw[h0] at ho;have hd:d.list=[]:=List.eq_nil_of_length_eq_zero (by omega);clear hs hrange hRA hperm hown hseen hvm;go_wp2_with fail
    refine HS.out.mono ?_;rintro e w4 ⟨rfl,rfl⟩;go_wp2;go_ret;refine⟨.slice va 0 vc,rfl,?_,hEx⟩;have hv0:vis=[]:=List.eq_nil_of_length_eq_zero h0;subst hv0;rw[hd];exact ho
   ·injection hgv with e1 e2 e3;subst e1;subst e3;have hlm:(vis.map Prod.fst).length=vis.length:=by simp
    have hH:Go.Sort.Holds encStr wr g 0 (vis.map Prod.fst).toArray:=holds_of_block hb (by rw[hlm,<-Nat.mul_one vis.length];exact h4);have hs:=Tryz.slices_Sort_string g 0 vc (vis.map Prod.fst) wr hH (Array.getElem?_eq_some_iff.1 hb).1 (by rw[hlm];omega);rw[hlm] at hs;have HS:=Lib.hid hs;have HBK:=Lib.hid hb;have H3:=Lib.hid h3;clear hs hrange hRA hperm hown hseen hvm hH hb h4 h3;go_wp2_with fail
    refine HS.out.mono ?_;rintro e w4 ⟨rfl,n,os,hw4⟩;have HW4:=Lib.hid hw4;clear hw4;go_wp2;go_ret;refine⟨.slice (some ⟨g,0,none⟩) vis.length vc,rfl,?_,?_⟩
    ·have:=ownsRow_sorted (n:=n) (os:=os) (ss:=vis.map Prod.fst) (ts:=d.list) (by rw[hlen,hlm]) hbase HBK.out (by rw[hlm];exact h1) h2 H3.out;rw[<-hls] at this;rw[HW4.out];unfold b2r;rw[hlen,<-hls];rw[hlm] at this;exact this
    ·rw[HW4.out];exact Below.grown hEx (grownBy_sorted _) hEx.size (fun k hk=>by injection hk with hk;omega)
end
end Go.Proofs.YtgpbhjjajpbeeaaGreatDoor
