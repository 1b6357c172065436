/- A part of what the last file proves. -/
import Derived.Test.YtgpbhjjajpbeeaaGreatDoorL11
import Derived.Deep.DeepCutAuto
set_option linter.all false
set_option maxRecDepth 100000
set_option maxHeartbeats 3200000
namespace Go.Proofs.YtgpbhjjajpbeeaaGreatDoor
section
open Go.RowKit Go.Lib Go.Maps Dk
def X8(p:Nm×Value):List Value:=[strV p.1,p.2]
def a2s(w:World)(v:Value)(l:Fl):Prop:=
 ∃(a:Option Addr)(cap:Nat)(rows:List (Nm×Value)),v=.slice a l.length cap/\l.length<=cap/\cap<=9223372036854775807/\rows.length=l.length/\
  (∀(i:Nat)p,rows[i]?=some p->∃g,a=some ⟨g,0,none⟩/\w.cell? ⟨g,i*2,none⟩=some (strV p.1)/\w.cell? ⟨g,i*2+1,none⟩=some p.2)/\
  ∀(i:Nat)p q,rows[i]?=some p->l[i]?=some q->p.1=q.1/\Bytes w p.2 q.2
theorem b5T(rows:List (Nm×Value))(i:Nat)(p:Nm×Value)(h:rows[i]?=some p)(j:Nat)(hj:j<2):(rows.flatMap X8)[2*i+j]?=(X8 p)[j]?:=by
 induction rows generalizing i with
 | nil=>simp at h
 | cons y l ih=>
  rw[List.flatMap_cons]
  cases i with
  | zero=>
   simp at h;subst h
   rw[List.getElem?_append_left (by simp[X8];omega)];simp
  | succ i=>
   simp at h;rw[List.getElem?_append_right (by simp[X8];omega),show 2*(i+1)+j - (X8 y).length=2*i+j by simp[X8];omega];exact ih i h
def a2b(w:World)(B:Nat)(v:Value)(rows:List (Nm×Value))(l:Fl):Prop:=
 w.ownsRow B 77 2 v rows.length (rows.flatMap X8)/\rows.length=l.length/\∀(i:Nat)p q,rows[i]?=some p->l[i]?=some q->p.1=q.1/\OwnB w B p.2 q.2
theorem a2b.files{w:World}{B:Nat}{v:Value}{rows:List (Nm×Value)}{l:Fl}(h:a2b w B v rows l):a2s w v l:=by
 obtain⟨h1,h2,h3⟩:=h;have hm:maxLen<=9223372036854775807:=by unfold maxLen;omega
 rcases h1.2 with⟨rfl,h0⟩|⟨g,cap,cur,rfl,_,hb,h4,h5,h6,h7⟩
 ·refine⟨none,0,rows,by rw[<-h2,h0],by omega,by omega,h2,fun i p hp=>?_,fun i p q hp hq=>⟨(h3 i p q hp hq).1,(h3 i p q hp hq).2.bytes⟩⟩;have:=(List.getElem?_eq_some_iff.1 hp).1;omega
 ·refine⟨some ⟨g,0,none⟩,cap,rows,by rw[h2],by omega,by omega,h2,fun i p hp=>⟨g,rfl,?_,?_⟩,fun i p q hp hq=>⟨(h3 i p q hp hq).1,(h3 i p q hp hq).2.bytes⟩⟩
  ·have e:=b5T rows i p hp 0 (by omega);rw[<-h7,List.getElem?_take] at e;split at e
   ·simp only[World.cell?,hb];rw[show i*2=2*i+0 by omega];simpa [X8] using e
   ·simp[X8] at e
  ·have e:=b5T rows i p hp 1 (by omega);rw[<-h7,List.getElem?_take] at e;split at e
   ·simp only[World.cell?,hb];rw[show i*2+1=2*i+1 by omega];simpa [X8] using e
   ·simp[X8] at e
theorem a2b.keep{w w':World}{B:Nat}{v:Value}{rows:List (Nm×Value)}{l:Fl}(h:a2b w B v rows l)(hk:∀b,B<=b->b<w.heap.size->w'.heap[b]?=w.heap[b]?):a2b w' B v rows l:=by
 obtain⟨h1,h2,h3⟩:=h;refine⟨Dep.row h1 w' fun b hb=>hk b (h1.lt b hb).1 (h1.lt b hb).2,h2,fun i p q hp hq=>⟨(h3 i p q hp hq).1,?_⟩⟩;have ho:=(h3 i p q hp hq).2;exact Dep.row ho w' fun b hb=>hk b (World.ownsRow.lt ho b hb).1 (World.ownsRow.lt ho b hb).2
theorem b2K.keep{w w':World}{B:Nat}{v:Value}{l:List Nm}(h:b2K w B v l)(hk:∀b,B<=b->b<w.heap.size->w'.heap[b]?=w.heap[b]?):b2K w' B v l:=
 Dep.row h w' fun b hb=>hk b (World.ownsRow.lt h b hb).1 (World.ownsRow.lt h b hb).2
theorem a2b.nil(w:World)(B:Nat):a2b w B (.slice none 0 0) [] []:=⟨⟨rfl,Or.inl ⟨rfl,rfl⟩⟩,rfl,by simp⟩
theorem Chg.grown{F:Nat->Prop}{w w1 w2:World}{row:Option Nat}(h:Chg F F w w1)(hg:w1.grownBy w2 row)(hr:∀k,row=some k->w.heap.size<=k):Chg F F w w2:=
 ⟨hg.os.trans h.os,hg.tape.trans h.tape,hg.output.trans h.output,Nat.le_trans h.size hg.size,fun b hb hF=>(hg.block b (Nat.lt_of_lt_of_le hb h.size) (fun e=>by have:=hr b e.symm;omega)).trans (h.block b hb hF),fun b hb=>.inl hb⟩
theorem b2K.cell{w:World}{B:Nat}{v:Value}{l:List Nm}(h:b2K w B v l){k:Nat}{n:Nm}(hk:l[k]?=some n):∃b c,v=.slice (some ⟨b,0,none⟩) l.length c/\w.cell? ⟨b,k,none⟩=some (strV n):=by
 obtain⟨h1,h2⟩:=h;have hkl:k<l.length:=(List.getElem?_eq_some_iff.1 hk).1;rcases h2 with⟨rfl,h0⟩|⟨g,cap,cur,rfl,_,hb,h3,h4,h5,h6⟩
 ·omega
 ·refine⟨g,cap,rfl,?_⟩;have e:(l.map strV)[k]?=some (strV n):=by rw[List.getElem?_map,hk];rfl
  rw[<-h6,List.getElem?_take] at e;split at e
  ·simp only[World.cell?,hb];simpa using e
  ·cases e
theorem b6T:(Tryz.prog.info? 77).map (fun i=>(i.zero,i.size,i.bytes))=some (some (.agg #[.string ⟨#[]⟩,.slice none 0 0]),2,40):=by kernel_rfl
theorem a8G(d:D)(n:Nm)(h:n∈d.list):∃b,d.file n=some b:=by
 cases e:d.file n with
 | none=>
  unfold D.file at e;rw[Option.map_eq_none_iff,O8,<-a2P] at e
  exact absurd h e
 | some b=>exact⟨b,rfl⟩
theorem b5U{d:D}(hw:d.Wf){c:Nat}(hds:∀x∈d.ids,(d.node x).data.length<=c){n:Nm}{b:List UInt8}(h:d.file n=some b):b.length<=c:=by
 unfold D.file at h;obtain⟨x,hx,rfl⟩:=Option.map_eq_some_iff.1 h;exact hds x (hw.now _ (a0y hx))
def c4g(F:Nat->Prop)(a:Nat)(d:D)(w:World)(e:Ending)(w':World):Prop:=
 ∃v rows,e=.returned v/\a2b w' w.heap.size v rows d.files/\y9 w' F a d/\Chg F F w w'
theorem b6U(F:Nat->Prop)(a:Nat)(d:D)(w:World)(h:y9 w F a d)(hc:d.Calm)(hnl:d.now.length<=32768)(hds:∀x∈d.ids,(d.node x).data.length<=35184372088832)(hnm:∀p∈d.now,p.1.length<=maxLen):
 Calls Tryz.prog 16 #[y8 a] w (c4g F a d w):=by
 have hlist:=b9w F a d w h hnl;have hlow:=h.low;have hll:d.list.length<=32768:=by unfold D.list;simpa using hnl
 have hnm':∀n∈d.list,n.length<=maxLen:=by
  intro n hn;rw[a2P] at hn;obtain⟨p,hp,rfl⟩:=List.mem_map.1 hn;exact hnm p hp
 obtain⟨i0,hi,hz0,hz1,hz2⟩:=info_parts b6T;have HL:=Lib.hid hlist;have HD:=Lib.hid h;have HLOW:=Lib.hid hlow;have HDS:=Lib.hid hds;have HNM:=Lib.hid hnm';have HC:=Lib.hid hc;have HW:=Lib.hid h.wf;clear hlist h hlow hds hnm hnm' hc;unfold y8 at HL;show Calls Tryz.prog 16 #[.pointer (some ⟨a,0,none⟩)] w (c4g F a d w);go_enter Tryz.func16,Tryz.ntmps16
 go_wp2_with fail
 refine HL.out.mono ?_;rintro e w1 ⟨nv,rfl,hN,hE⟩;have HN:=Lib.hid hN;have HE:=Lib.hid hE;clear hN hE HL;go_wp2;go_loopw [3,5] (fun u i wr=>∃(k:Nat)(rows:List (Nm×Value)),k<=d.list.length/\i=.int .i64 k/\a2b wr w.heap.size u rows (d.files.take k)/\b2K wr w.heap.size nv d.list/\y9 wr F a d/\Chg F F w wr) (fun _ i _=>d.list.length - (intOf i).toNat)
 case atStart=>exact⟨0,[],Nat.zero_le _,rfl,a2b.nil _ _,HN.out,HD.out.ext HE.out,Chg.ext HE.out⟩
 case round=>
  obtain⟨k,rows,hk,rfl,hR,hNr,hD,hC⟩:=hrel;obtain⟨na,nc,hnv⟩:=ownsRow_form hNr;obtain⟨ua,uc,hu⟩:=ownsRow_form hR.1;have hrl:rows.length<=32768:=by have:=hR.2.1;rw[List.length_take] at this;omega
  by_cases hlt:k<d.list.length
  ·obtain⟨nm,hm⟩:∃nm,d.list[k]?=some nm:=⟨_,List.getElem?_eq_getElem hlt⟩;have hmem:nm∈d.list:=List.mem_of_getElem? hm;obtain⟨fb,hfb⟩:=a8G d nm hmem;have hfl:=b5U HW.out HDS.out hfb;obtain⟨nb,nc',hnv',hcell⟩:=hNr.cell hm;have hsize:=size_any F a d nm wr hD (HNM.out nm hmem);rw[HC.out.size,hfb] at hsize;subst hnv';have hlow2:∀b,F b->b<w.heap.size:=HLOW.out;have hkeep:∀(x y:World),Chg F F x y->∀b,w.heap.size<=b->b<x.heap.size->y.heap[b]?=x.heap[b]?:=fun x y hxy b hb hbx=>hxy.block b hbx (fun hF=>by have:=hlow2 b hF;omega);have HS:=Lib.hid hsize;have HR:=Lib.hid hR;have HNR:=Lib.hid hNr;have HCC:=Lib.hid hC;have HFB:=Lib.hid hfb;have HK:=Lib.hid hkeep;have HM:=Lib.hid hm;have HNM2:=Lib.hid (HNM.out nm hmem);clear hsize hR hNr hD hC hfb hkeep hm hnv hlow2;unfold strV at hcell;unfold y8 strV at HS;subst hu;go_wp2_with fail
   refine HS.out.mono ?_;rintro e w2 ⟨v2,rfl,_,hD2,hC2⟩;have hR2:=HR.out.keep (HK.out _ _ hC2);have hN2:=HNR.out.keep (HK.out _ _ hC2);have hrd:=a4Y F a d nm 0 (fb.length:Int) w2 hD2 HNM2.out (by omega) (by omega) (fun x hx=>Nat.le_trans (HDS.out x hx) (by omega));rw[HC.out.readAt,HFB.out] at hrd;simp only[b2D] at hrd;obtain⟨nb2,nc2,hnv2,hcell2⟩:=hN2.cell HM.out;injection hnv2 with e1 e2 e3;injection e1 with e1;injection e1 with e1;subst e1;subst e3;have HRD:=Lib.hid hrd;have HC2:=Lib.hid (HCC.out.trans hC2);have HR2:=Lib.hid hR2;have HN2:=Lib.hid hN2;clear hrd hC2 hR2 hN2 hcell e2 hD2 HR HNR HCC HS;unfold strV at hcell2;unfold y8 strV at HRD;go_wp2_with fail
   refine HRD.out.mono ?_;rintro e w3 ⟨bv,v3,rfl,hB3,_,hD3,hC3,-⟩;have hR3:=HR2.out.keep (HK.out _ _ hC3);have hN3:=HN2.out.keep (HK.out _ _ hC3);have hCC:=HC2.out.trans hC3;have hB3':OwnB w3 w.heap.size bv fb:=J8 hB3 HC2.out.size;obtain⟨nb3,nc3,hnv3,hcell3⟩:=hN3.cell HM.out;injection hnv3 with e1 e2 e3;injection e1 with e1;injection e1 with e1;subst e1;subst e3;have hrow:=hR3.1;obtain⟨ba,bc,hbv⟩:=ownsRow_form hB3;subst hbv;have HR3:=Lib.hid hR3;have HN3:=Lib.hid hN3;have HC3:=Lib.hid hCC;have HB3:=Lib.hid hB3';have HD3:=Lib.hid hD3;clear hR3 hN3 hCC hC3 hB3 hB3' hD3 hcell2 e2 HR2 HN2 HC2 HRD;unfold strV at hcell3;have hE4:Ext w3 (w3.alloc (.cells #[strV nm,Value.slice ba fb.length bc] 77)):=(Ext.refl w3).new _;go_wp2_with (at_builtin;go_must (refine D6 rfl _ _ 40 rfl w.heap.size 77 i0 (.agg #[.string ⟨#[]⟩,.slice none 0 0]) 2 40 Tryz.underlying40 hi hz0 hz1 hz2 rfl (by omega) (.slice ua rows.length uc) rows.length _ rfl (hrow.alloc (.cells #[strV nm,Value.slice ba fb.length bc] 77)) (.slice (some ⟨w3.heap.size,0,none⟩) 1 1) 1 [strV nm,Value.slice ba fb.length bc] rfl ⟨_,_,rfl,by omega,⟨by omega,fun h=>by cases h⟩,fun _=>⟨_,rfl,World.news_of_block (cs:=#[strV nm,Value.slice ba fb.length bc]) (t:=77) (fr:=(0,0)) (heap_alloc_new w3 _)⟩⟩ rfl (by simp[Value.oneCell',strV]) (by unfold maxLen;omega) (by omega) (by have:=HC3.out.size;simp;omega) ?_);intro b6 c6 w6 hown6 hgrow6 hat6;have HO6:=Lib.hid hown6;have HG6:=Lib.hid hgrow6;clear hown6 hgrow6 hat6)
   go_roundw
   case rel=>
    have hkb:∀b,w.heap.size<=b->b<w3.heap.size->(Value.slice ua rows.length uc).ownBlock≠some b->w6.heap[b]?=w3.heap[b]?:=fun b hb hb3 hne=>(HG6.out.block b (by simp;omega) (fun e=>hne e.symm)).trans (heap_alloc_old w3 _ hb3);have htk:d.files.take (k+1)=d.files.take k++[(nm,fb)]:=by
     have:d.files[k]?=some (nm,fb):=by
      unfold D.files;rw[List.getElem?_map,HM.out];simp[HFB.out]
     rw[List.take_add_one,this];rfl
    have hlen:=HR3.out.2.1;refine⟨k+1,rows++[(nm,Value.slice ba fb.length bc)],by omega,by go_num,⟨?_,?_,?_⟩,?_,?_,?_⟩
    ·have:=HO6.out;rw[List.length_append,List.flatMap_append];simpa [X8] using this
    ·rw[htk,List.length_append,List.length_append,hlen];rfl
    ·intro i p q hp hq;rw[htk] at hq;by_cases hi2:i<rows.length
     ·rw[List.getElem?_append_left hi2] at hp;rw[List.getElem?_append_left (by omega)] at hq;obtain⟨h1,h2⟩:=HR3.out.2.2 i p q hp hq;refine⟨h1,Dep.row h2 w6 fun b hb=>hkb b (World.ownsRow.lt h2 b hb).1 (World.ownsRow.lt h2 b hb).2 (a2r h2 HR3.out.1 (by decide) hb)⟩
     ·rw[List.getElem?_append_right (by omega)] at hp;rw[List.getElem?_append_right (by omega),<-hlen] at hq;have e0:i - rows.length=0:=by
       rcases Nat.eq_zero_or_pos (i - rows.length) with e|e
       ·exact e
       ·rw[List.getElem?_eq_none (by simp;omega)] at hp;cases hp
      rw[e0] at hp hq;simp at hp hq;subst hp;subst hq;refine⟨rfl,Dep.row HB3.out w6 fun b hb=>hkb b (World.ownsRow.lt HB3.out b hb).1 (World.ownsRow.lt HB3.out b hb).2 (a2r HB3.out HR3.out.1 (by decide) hb)⟩
    ·exact Dep.row HN3.out w6 fun b hb=>hkb b (World.ownsRow.lt HN3.out b hb).1 (World.ownsRow.lt HN3.out b hb).2 (a2r HN3.out HR3.out.1 (by decide) hb)
    ·exact HD3.out.frame (fun b hb=>(HG6.out.block b (by have:=HLOW.out b hb;have:=HC3.out.size;simp;omega) (fun e=>by have:=(HR3.out.1.lt b e.symm).1;have:=HLOW.out b hb;omega)).trans (heap_alloc_old w3 _ (by have:=HLOW.out b hb;have:=HC3.out.size;omega))) (by have:=HG6.out.size;simp at this;omega)
    ·exact(HC3.out.trans (Chg.ext hE4)).grown HG6.out fun b hb=>(HR3.out.1.lt b hb).1
   case measure=>simp[intOf];omega
  ·obtain rfl:k=d.list.length:=by omega
   subst hu;have hfin:c4g F a d w (.returned (.slice ua rows.length uc)) wr:=by
    refine⟨.slice ua rows.length uc,rows,rfl,?_,hD,hC⟩;have:d.files.take d.list.length=d.files:=by rw[List.take_of_length_le];unfold D.files;simp
    rw[<-this];exact hR
   have HFIN:=Lib.hid hfin;subst hnv;clear hfin hR hD hC hNr;go_wp2;go_ret;exact HFIN.out
end
section
open Go.RowKit Go.Lib Go.Maps Dk Pl
def b9A(l:Fl)(name:Nm)(w:World)(e:Ending)(w':World):Prop:=
 w'=w/\∃v,e=.returned (.tuple #[v,.bool (D9 l name).isSome])/\Bytes w v ((D9 l name).getD [])
theorem a7Q{l:Fl}{k:Nat}{q:Nm×List UInt8}{name:Nm}(h:D9 (l.take k) name=none)(hq:l[k]?=some q)(hne:q.1≠name):D9 (l.take (k+1)) name=none:=by
 rw[List.take_add_one,hq];show D9 (l.take k++[q]) name=none;rw[a3j,h,a0h,if_neg hne];rfl
theorem b6V{l:Fl}{k:Nat}{q:Nm×List UInt8}{name:Nm}(h:D9 (l.take k) name=none)(hq:l[k]?=some q)(he:q.1=name):D9 l name=some q.2:=by
 have hk:k<l.length:=(List.getElem?_eq_some_iff.1 hq).1;have e:l=l.take k++(q::l.drop (k+1)):=by
  have h2:=(List.getElem?_eq_some_iff.1 hq).2;rw[<-h2,<-List.drop_eq_getElem_cons hk,List.take_append_drop]
 rw[e,a3j,h,a0h,if_pos he];rfl
theorem b0A(v:Value)(l:Fl)(name:Nm)(w:World)(h:a2s w v l):
 Calls Tryz.prog 31 #[v,strV name] w (b9A l name w):=by
 obtain⟨a,cap,rows,rfl,hc,hc',hrl,hcell,hby⟩:=h;have HC:=Lib.hid hcell;have HB:=Lib.hid hby;clear hcell hby;unfold strV;go_enter Tryz.func31,Tryz.ntmps31
 go_wp2;go_loopw [6] (fun i wr=>∃k:Nat,k<=l.length/\i=.int .i64 k/\D9 (l.take k) name=none/\wr=w) (fun i _=>l.length - (intOf i).toNat)
 case atStart=>exact⟨0,Nat.zero_le _,rfl,by simp[D9],rfl⟩
 case round=>
  obtain⟨k,hk,rfl,hno,rfl⟩:=hrel;by_cases hlt:k<l.length
  ·obtain⟨q,hq⟩:∃q,l[k]?=some q:=⟨_,List.getElem?_eq_getElem hlt⟩;obtain⟨p,hp⟩:∃p,rows[k]?=some p:=⟨_,List.getElem?_eq_getElem (by omega)⟩;obtain⟨g,rfl,c0,c1⟩:=HC.out k p hp;obtain⟨he,hb⟩:=HB.out k p q hp hq;have HNO:=Lib.hid hno;have HQ:=Lib.hid hq;have HBB:=Lib.hid hb;have HE:=Lib.hid he;clear hno hq hb hp he;unfold strV at c0;by_cases hnm:p.1=name
   ·have hx:(p.1==name)=true:=beq_iff_eq.2 hnm;have hfin:b9A l name wr (.returned (.tuple #[p.2,.bool true])) wr:=by
     have e:=b6V HNO.out HQ.out (HE.out.symm.trans hnm);exact⟨rfl,p.2,by rw[e];rfl,by rw[e];exact HBB.out⟩
    have HF:=Lib.hid hfin;clear hfin hnm;go_wp2;go_ret2
    exact HF.out
   ·have hx:(p.1==name)=false:=beq_eq_false_iff_ne.2 hnm;have HX:=Lib.hid hnm;clear hnm;go_wp2;go_roundw
    case rel=>exact⟨k+1,by omega,by go_num,a7Q HNO.out HQ.out (fun e=>HX.out (HE.out.trans e)),by trivial⟩
    case measure=>simp[intOf];omega
  ·obtain rfl:k=l.length:=by omega
   have hfin:b9A l name wr (.returned (.tuple #[.slice none 0 0,.bool false])) wr:=by
    rw[List.take_length] at hno;exact⟨rfl,_,by rw[hno];rfl,by rw[hno];exact⟨none,0,rfl,Nat.le_refl _,⟨by omega,fun _=>rfl⟩,fun h=>absurd rfl h⟩⟩
   have HF:=Lib.hid hfin;clear hfin hno;go_wp2;go_ret2
   exact HF.out
theorem c4h(v:Value)(l:List Int)(x:Int)(w:World)(h:Ints w v l):
 Calls Tryz.prog 51 #[v,.int .i64 x] w fun e w'=>e=.returned (.bool (decide (x∈l)))/\w'=w:=by
 obtain⟨a,cap,rfl,hc,hc',hcell⟩:=h;have hat:∀k,(hk:k<l.length)->∃b,a=some b/\w.cell? (b.add k)=some (.int .i64 l[k]):=by
  intro k hk;obtain⟨b,rfl,hb⟩:=hcell (fun e=>by simp at e;subst e;simp at hk);exact⟨b,rfl,hb k _ (by simp[hk])⟩
 have HA:=Lib.hid hat;clear hat hcell;go_enter Tryz.func51,Tryz.ntmps51
 go_wp2;go_loopw [5] (fun i wr=>∃k:Nat,k<=l.length/\i=.int .i64 k/\x∉l.take k/\wr=w) (fun i _=>l.length - (intOf i).toNat)
 case atStart=>exact⟨0,Nat.zero_le _,rfl,by simp,rfl⟩
 case round=>
  obtain⟨k,hk,rfl,hno,rfl⟩:=hrel;by_cases hlt:k<l.length
  ·obtain⟨b,rfl,c0⟩:=HA.out k hlt;have HNO:=Lib.hid hno;clear hno;by_cases hx:l[k]=x
   ·have hx':(l[k]==x)=true:=beq_iff_eq.2 hx;have hd:decide (x∈l)=true:=decide_eq_true (hx▸List.getElem_mem hlt);have HD:=Lib.hid hd;clear hd;clear hx;go_wp2;go_ret;exact⟨by rw[HD.out];rfl,rfl⟩
   ·have hx':(l[k]==x)=false:=beq_eq_false_iff_ne.2 hx;have HX:=Lib.hid hx;clear hx;go_wp2;go_roundw
    case rel=>
     refine⟨k+1,by omega,by go_num,?_,by trivial⟩;rw[take_snoc l k hlt,List.mem_append];rintro(h|h)
     ·exact HNO.out h
     ·simp at h;exact HX.out h.symm
    case measure=>simp[intOf];omega
  ·obtain rfl:k=l.length:=by omega
   rw[List.take_length] at hno;have hd:decide (x∈l)=false:=decide_eq_false hno;have HD:=Lib.hid hd;clear hd hno;go_wp2;go_ret;exact⟨by rw[HD.out];rfl,rfl⟩
end
section
open Go.RowKit Go.Lib Go.Maps Dk Pl
structure Rc where
 seq:Nat
 key:ByteArray
 val:ByteArray
 del:Bool
structure Sg where
 id:Int
 recs:List Rc
 tail:List UInt8
 listed:Bool
 gone:Bool
structure Ot where
 name:ByteArray
 hint:Int
 bytes:List UInt8
structure Dr where
 segs:List Sg
 others:List Ot
 gen:Nat
 spoilt:List UInt8
 whole:Bool
 without:Bool
def RowOf{α:Type}(w:World)(v:Value)(l:List α)(sz:Nat)(at_:World->Addr->α->Prop):Prop:=
 ∃a cap,v=.slice a l.length cap/\l.length<=cap/\cap<=9223372036854775807/\∀i x,l[i]?=some x->∃b,a=some b/\at_ w (b.add (i*sz)) x
def b1x(w:World)(b:Addr)(r:Rc):Prop:=
 w.cell? b=some (.int .u64 r.seq)/\w.cell? ⟨b.block,b.off+1,none⟩=some (.string r.key)/\w.cell? ⟨b.block,b.off+2,none⟩=some (.string r.val)/\w.cell? ⟨b.block,b.off+3,none⟩=some (.bool r.del)
def a9K(w:World)(b:Addr)(s:Sg):Prop:=
 ∃v1 v2,w.cell? b=some (.int .i64 s.id)/\w.cell? ⟨b.block,b.off+1,none⟩=some v1/\w.cell? ⟨b.block,b.off+2,none⟩=some v2/\w.cell? ⟨b.block,b.off+3,none⟩=some (.bool s.listed)/\w.cell? ⟨b.block,b.off+4,none⟩=some (.bool s.gone)/\
  RowOf w v1 s.recs 4 b1x/\Bytes w v2 s.tail
def b1y(w:World)(b:Addr)(s:Ot):Prop:=
 ∃v2,w.cell? b=some (.string s.name)/\w.cell? ⟨b.block,b.off+1,none⟩=some (.int .i64 s.hint)/\w.cell? ⟨b.block,b.off+2,none⟩=some v2/\Bytes w v2 s.bytes
def b1z(w:World)(v:Value)(d:Dr):Prop:=
 ∃v0 v1 v3,v=.agg #[v0,v1,.int .u64 d.gen,v3,.bool d.whole,.bool d.without]/\RowOf w v0 d.segs 5 a9K/\RowOf w v1 d.others 3 b1y/\Bytes w v3 d.spoilt
theorem RowOf.ext{α:Type}{w w':World}{v:Value}{l:List α}{sz:Nat}{at_:World->Addr->α->Prop}(h:RowOf w v l sz at_)(hat:∀b x,at_ w b x->at_ w' b x):RowOf w' v l sz at_:=by
 obtain⟨a,cap,rfl,h1,h2,h3⟩:=h;refine⟨a,cap,rfl,h1,h2,fun i x hx=>?_⟩;obtain⟨b,rfl,hb⟩:=h3 i x hx;exact⟨b,rfl,hat _ _ hb⟩
theorem b1x.ext{w w':World}{b:Addr}{r:Rc}(hE:Ext w w')(h:b1x w b r):b1x w' b r:=⟨hE.cell h.1,hE.cell h.2.1,hE.cell h.2.2.1,hE.cell h.2.2.2⟩
theorem a9K.ext{w w':World}{b:Addr}{r:Sg}(hE:Ext w w')(h:a9K w b r):a9K w' b r:=by
 obtain⟨v1,v2,h0,h1,h2,h3,h4,h5,h6⟩:=h;exact⟨v1,v2,hE.cell h0,hE.cell h1,hE.cell h2,hE.cell h3,hE.cell h4,h5.ext fun _ _=>b1x.ext hE,h6.ext hE⟩
theorem b1y.ext{w w':World}{b:Addr}{r:Ot}(hE:Ext w w')(h:b1y w b r):b1y w' b r:=by
 obtain⟨v2,h0,h1,h2,h3⟩:=h;exact⟨v2,hE.cell h0,hE.cell h1,hE.cell h2,h3.ext hE⟩
theorem b1z.ext{w w':World}{v:Value}{d:Dr}(h:b1z w v d)(hE:Ext w w'):b1z w' v d:=by
 obtain⟨v0,v1,v3,rfl,h0,h1,h3⟩:=h;exact⟨v0,v1,v3,rfl,h0.ext fun _ _=>a9K.ext hE,h1.ext fun _ _=>b1y.ext hE,h3.ext hE⟩
theorem RowOf.form{α:Type}{w:World}{v:Value}{l:List α}{sz:Nat}{at_:World->Addr->α->Prop}(h:RowOf w v l sz at_):∃a cap,v=.slice a l.length cap/\l.length<=cap/\cap<=9223372036854775807:=by
 obtain⟨a,cap,rfl,h1,h2,_⟩:=h;exact⟨a,cap,rfl,h1,h2⟩
theorem RowOf.at{α:Type}{w:World}{a:Option Addr}{cap:Nat}{l:List α}{sz:Nat}{at_:World->Addr->α->Prop}(h:RowOf w (.slice a l.length cap) l sz at_){i:Nat}{x:α}(hx:l[i]?=some x):∃b,a=some b/\at_ w (b.add (i*sz)) x:=by
 obtain⟨a',cap',e,_,_,h3⟩:=h;injection e with e1;subst e1;exact h3 i x hx
structure Dr.Small(d:Dr):Prop where
 segs:d.segs.length<=60
 others:d.others.length<=300
 spoilt:d.spoilt.length<=40000
 tail:∀s∈d.segs,s.tail.length<=40000
 recs:∀s∈d.segs,s.recs.length<=2000/\∀r∈s.recs,r.key.size<=40000/\r.val.size<=40000
 other:∀s∈d.others,s.name.size<=40000/\s.bytes.length<=40000
structure Dr.Fits(d:Dr)(B:Nat):Prop where
 tail:∀s∈d.segs,s.tail.length<=B
 recs:∀s∈d.segs,∀r∈s.recs,r.key.size<=B/\r.val.size<=B
 other:∀s∈d.others,s.name.size<=B/\s.bytes.length<=B
end
section
open Go.RowKit Go.Lib Pl
theorem a7X(seq:Nat)(k v:List UInt8)(d:Bool)(hk:k.length<=16)(hv:v.length<=64):(summed (body seq k v d)).length<=200:=by
 unfold summed body;simp[H7];omega
def c3b(w:World)(e:Ending)(w':World):Prop:=
 ∃(x:Value)(n:Int)(l:List UInt8),e=.returned (.tuple #[x,.int .i64 n])/\Ext w w'/\OwnB w' w.heap.size x l/\l.length<=200
theorem a4h(w:World)(B:Nat):OwnB w B (.slice none 0 0) []:=⟨rfl,.inl ⟨rfl,rfl⟩⟩
theorem b5a(seq:Nat)(k v:ByteArray)(d:Bool)(sz:Int)(w:World):
 Calls Tryz.prog 49 #[a7Y seq k v d sz] w (c3b w):=by
 by_cases h1:k.size<1\/16<k.size
 ·refine(a9Y seq k v d sz w h1).mono ?_;rintro e w' ⟨rfl,hE⟩;exact⟨_,_,[],rfl,hE,a4h _ _,by simp⟩
 by_cases h2:64<v.size\/(v.size<=64/\d=true/\0<v.size)
 ·refine(a9Z seq k v d sz w (by omega) (by omega) h2).mono ?_;rintro e w' ⟨rfl,hE⟩;exact⟨_,_,[],rfl,hE,a4h _ _,by simp⟩
 ·refine(b2b seq k v d sz w (by omega) (by omega) (by omega) ?_).mono ?_
  ·cases d
   ·exact .inl rfl
   ·right;rcases Nat.eq_zero_or_pos v.size with h|h
    ·exact h
    ·exact absurd (.inr ⟨by omega,rfl,h⟩) h2
  ·rintro e w' ⟨x,rfl,hO,hE⟩;exact⟨_,_,_,rfl,hE,hO,a7X _ _ _ _ (by rw[I8];omega) (by rw[I8];omega)⟩
end
section
open Go.RowKit Go.Lib Pl
theorem b0T(w:World)(a b:Nat):(w.drewN a).drewN b=w.drewN (a+b):=by
 induction b with
 | zero=>rfl
 | succ b ih=>show((w.drewN a).drewN b).drew=(w.drewN (a+b)).drew;rw[ih]
theorem Ints.at{w w':World}{a:Option Addr}{cap:Nat}{l:List Int}(h:Ints w (.slice a l.length cap) l)(hE:Ext w w'){k:Nat}(hk:k<l.length):∃b,a=some b/\w'.cell? (b.add k)=some (.int .i64 (l[k])):=by
 obtain⟨a',c',e,_,_,hf⟩:=(h.ext hE).open;injection e with e1;subst e1;exact hf k hk
theorem a5X(v:Value)(l:List Int)(w:World)(h:Ints w v l):
 Calls Tryz.prog 77 #[v] w fun e w'=>e=.returned (.bool (a0g l))/\∃n,w'=w.drewN n:=by
 obtain⟨a,cap,rfl,hc,hc',-⟩:=h.open;have HI:=Lib.hid h;clear h;by_cases h60:60<l.length
 ·have hd:a0g l=false:=by unfold a0g;rw[decide_eq_false (by omega)];rfl
  go_enter Tryz.func77,Tryz.ntmps77
  go_wp2;go_ret;exact⟨by first|rfl|(rw[hd];rfl),0,rfl⟩
 have H60:Hid (l.length<=60):=by
  have:l.length<=60:=by omega
  exact this
 go_enter Tryz.func77,Tryz.ntmps77
 go_wp2;go_loopw [3,4] (fun i _ wr=>∃k:Nat,k<=l.length/\i=.int .i64 k/\a5d l k/\∃n,wr=w.drewN n) (fun i _ _=>l.length - (intOf i).toNat)
 case atStart=>exact⟨0,Nat.zero_le _,rfl,⟨rfl,List.nodup_nil⟩,0,rfl⟩
 case round=>
  obtain⟨k,hk,rfl,hg,n,rfl⟩:=hrel;by_cases hlt:k<l.length
  ·obtain⟨b,rfl,hb⟩:=HI.out.at (Ext.drewN w n) hlt;have HG:=Lib.hid hg;clear hg;by_cases h1:l[k]<1
   ·have hf:=a2u (x:=l[k]) hlt rfl (by unfold inRange;rw[decide_eq_false (by omega)];rfl);go_wp2;go_ret;exact⟨by first|rfl|(rw[hf];rfl),n,rfl⟩
   by_cases h2:999999<l[k]
   ·have hf:=a2u (x:=l[k]) hlt rfl (by unfold inRange;rw[decide_eq_false (show ¬l[k]<=999999 by omega)];simp);go_wp2;go_ret;exact⟨by first|rfl|(rw[hf];rfl),n,rfl⟩
   go_wp2;go_loopw [4] (fun j wr=>∃m:Nat,m<=k/\j=.int .i64 m/\l[k]∉l.take m/\∃n,wr=w.drewN n) (fun j _=>k - (intOf j).toNat)
   case atStart=>exact⟨0,Nat.zero_le _,rfl,by simp,n,rfl⟩
   case round=>
    obtain⟨m,hm,rfl,hne,n',rfl⟩:=hrel;by_cases hmk:m<k
    ·obtain⟨b',eb,hb1⟩:=HI.out.at (Ext.drewN w n') (k:=m) (by omega);injection eb with eb;subst eb;obtain⟨b',eb,hb2⟩:=HI.out.at (Ext.drewN w n') hlt;injection eb with eb;subst eb;have HN:=Lib.hid hne;clear hne;clear hb;generalize hwn:w.drewN n'=wn at *;have hml:m<l.length:=by omega
     by_cases he:l[m]=l[k]
     ·have he':((l[m]:Int)==l[k])=true:=beq_iff_eq.2 he;have hf:=b0C (x:=l[k]) hlt rfl (by rw[<-he];exact List.mem_take_iff_getElem.2 ⟨m,by omega,rfl⟩);clear he;go_wp2;go_quiet (fail)
      go_wp2;go_ret;exact⟨by first|rfl|(rw[hf];rfl),n'+nq,by rw[<-hwn,b0T]⟩
     ·have he':((l[m]:Int)==l[k])=false:=beq_eq_false_iff_ne.2 he;have HM:Hid (l[k]∉l.take (m+1)):=by
       have:l[k]∉l.take (m+1):=by
        rw[take_snoc l m hml,List.mem_append];rintro(h|h)
        ·exact HN.out h
        ·simp at h;exact he h.symm
       exact this
      clear he;go_wp2;go_quiet (fail)
      go_wp2;go_roundw
      case rel=>exact⟨m+1,by omega,by go_num,HM.out,n'+nq,by rw[<-hwn,b0T]⟩
      case measure=>simp[intOf];omega
    ·obtain rfl:m=k:=by omega
     have HN:=Lib.hid hne;clear hne;go_wp2;go_roundw
     case rel=>exact⟨m+1,by omega,by go_num,a7i HG.out hlt rfl (by unfold inRange;rw[decide_eq_true (show 1<=l[m] by omega),decide_eq_true (show l[m]<=999999 by omega)];rfl) HN.out,n',rfl⟩
     case measure=>simp[intOf];omega
  ·go_wp2;go_ret;obtain rfl:k=l.length:=by omega
   unfold a5d at hg;rw[List.take_length] at hg;refine⟨?_,n,rfl⟩;unfold a0g;rw[hg.1,decide_eq_true hg.2,decide_eq_true H60.out];rfl
end
section
open Go.RowKit Go.Lib Pl
def c1b(gen:Nat)(l:List Int)(w:World)(e:Ending)(w':World):Prop:=
 ∃x,e=.returned (.tuple #[x,.int .i64 (if a0g l=true then 0 else 4)])/\Ext w w'/\
  ((a0g l=true/\OwnB w' w.heap.size x (summed (a1o gen l)))\/(a0g l=false/\x=.slice none 0 0))
theorem a7Z(gen:Nat)(v:Value)(l:List Int)(w:World)(h:Ints w v l):
 Calls Tryz.prog 52 #[.int .u64 gen,v] w (c1b gen l w):=by
 obtain⟨a,cap,rfl,hc,hc',-⟩:=h.open;obtain⟨i0,hi,hz0,hz1,hz2⟩:=info_parts a4q;have HI:=Lib.hid h;clear h;go_enter Tryz.func52,Tryz.ntmps52
 go_wp2_with fail
 refine(a5X _ l w HI.out).mono ?_;rintro e w1 ⟨rfl,q,hq⟩;have hE1:Ext w w1:=by rw[hq];exact Ext.drewN w q
 clear hq
 cases hok:a0g l with
 | false=>
  go_wp2;go_ret2
  exact⟨_,by rw[hok];rfl,hE1,Or.inr ⟨hok,rfl⟩⟩
 | true=>
  have hl60:l.length<=60:=by
   have:=hok;unfold a0g at this;exact of_decide_eq_true (Bool.and_eq_true_iff.1 this).1
  have hO1:OwnB w1 w.heap.size (.slice none 0 0) []:=⟨rfl,Or.inl ⟨rfl,rfl⟩⟩;go_wp2_with fail
  refine(Y0 _ w.heap.size [] gen 8 w1 hO1 (by omega) (by simp) hE1.size).mono ?_;rintro e w2 ⟨v2,rfl,hO2,hb2⟩;have hE2:=Below.trans hE1 hb2;clear hE1 hb2 hO1;have hwl:IntKind.u64.wrap (l.length:Int)=(l.length:Int):=by rw[IntKind.wrap_u64];omega
  go_wp2_with fail
  refine(Y0 _ w.heap.size _ l.length 2 w2 hO2 (by omega) (by simp[H7]) hE2.size).mono ?_;rintro e w3 ⟨v3,rfl,hO3,hb3⟩;have hE3:=Below.trans hE2 hb3;clear hE2 hb3 hO2;have hin:∀n∈l,inRange n=true:=by
   have:=hok;unfold a0g at this;exact List.all_eq_true.1 (Bool.and_eq_true_iff.1 (Bool.and_eq_true_iff.1 this).2).1
  go_wp2;go_loopw [7,8] (fun u i wr=>∃k:Nat,k<=l.length/\i=.int .i64 k/\OwnB wr w.heap.size u ([]++be gen 8++be l.length 2++a04 (l.take k))/\Ext w wr) (fun _ i _=>l.length - (intOf i).toNat)
  case atStart=>exact⟨0,Nat.zero_le _,rfl,by simpa [a04] using hO3,hE3⟩
  case round=>
   clear hO3 hE3;obtain⟨k,hk,rfl,hO,hE⟩:=hrel;have hlb:=a2d (l.take k);rw[List.length_take] at hlb;by_cases hlt:k<l.length
   ·obtain⟨b,rfl,hb⟩:∃b,a=some b/\wr.cell? (b.add k)=some (.int .i64 (l[k])):=by
     obtain⟨a',c',e,_,_,hf⟩:=(HI.out.ext hE).open;injection e with e1;subst e1;exact hf k hlt
    have hir:=hin _ (List.getElem_mem hlt);unfold inRange at hir;have hi1:=of_decide_eq_true (Bool.and_eq_true_iff.1 hir).1;have hi2:=of_decide_eq_true (Bool.and_eq_true_iff.1 hir).2;have hsn:a04 (l.take (k+1))=a04 (l.take k)++be (l[k]).toNat 4:=by rw[take_snoc l k hlt,b1H]
    have HS:=Lib.hid hsn;clear hsn hir;generalize l[k]=x at *;obtain⟨x,rfl⟩:=Int.eq_ofNat_of_zero_le (show 0<=x by omega);have hwx:IntKind.u64.wrap (x:Int)=(x:Int):=by rw[IntKind.wrap_u64];omega
    have hcall:=Y0 _ w.heap.size _ x 4 _ hO (by omega) (by simp[H7];omega) hE.size;have HE:=Lib.hid hE;clear hE hO;go_wp2_with fail
    refine hcall.mono ?_;rintro e w5 ⟨v5,rfl,hO5,hb5⟩;have hE5:Ext w w5:=Below.trans HE.out hb5;clear hcall hb5 HE;go_wp2;go_roundw
    case rel=>exact⟨k+1,by omega,by go_num,by rw[HS.out];simpa using hO5,hE5⟩
    case measure=>simp[intOf];omega
   ·obtain rfl:k=l.length:=by omega
    rw[List.take_length] at hO;have hd:[]++be gen 8++be l.length 2++a04 l=a1o gen l:=by unfold a1o;simp
    rw[hd] at hO;have hml:(a1o gen l).length<=300:=by unfold a1o;simp[H7,a2d];omega
    have hdecl:∃m,m=a1o gen l:=⟨_,rfl⟩;have HE:=Lib.hid hE;have HO:=Lib.hid hO;clear hE hO hd hdecl;go_wp2_with fail
    refine(a2j _ (a1o gen l) _ HO.out.bytes).mono ?_;rintro e w5 ⟨rfl,rfl⟩;have hown:OwnB wr w.heap.size u7 (a1o gen l):=HO.out;have hE:Ext w wr:=HE.out;clear HO HE;generalize hI:a1o gen l=I at *;have hwc:IntKind.u64.wrap ((crc I:Nat):Int)=((crc I:Nat):Int):=by rw[IntKind.wrap_u64];have:=a4e I;omega
    have HO:=Lib.hid hown;have HE:=Lib.hid hE;clear hown hE;go_wp2_with fail
    refine(Y0 _ wr.heap.size [] (crc I) 4 _ (World.ownsRow_nil _ _ _ _) (by omega) (by simp) (Nat.le_refl _)).mono ?_;rintro e w9 ⟨v9,rfl,hown9,hb9⟩;rw[List.nil_append] at hown9;generalize hC:be (crc I) 4=C at *;have hCl:C.length=4:=by rw[<-hC,H7]
    have HC:=Lib.hid hC;clear hC;have HCl:=Lib.hid hCl;clear hCl;clear hwc;go_wp2_with (at_builtin;go_must (refine D6 rfl _ _ 25 rfl wr.heap.size 5 i0 (.int .u8 0) 1 1 Tryz.underlying25 hi hz0 hz1 hz2 rfl (by omega) v9 C.length _ rfl hown9 u7 I.length (I.map byteV) rfl (HO.out.bytes.ext hb9) (by simp) (a0S _) (by rw[HCl.out];unfold maxLen;omega) (by rw[HCl.out];omega) hb9.size ?_);intro b10 c10 w10 hown10 hgrow10 hat10;clear hat10)
    go_ret2
    refine⟨_,by rw[if_pos hok];rfl,?_,Or.inl ⟨hok,?_⟩⟩
    ·exact(Below.trans HE.out (hb9.mono HE.out.size)).grown hgrow10 (Nat.le_trans HE.out.size hb9.size) (fun r hr=>by have:=(hown9.lt r hr).1;have:=HE.out.size;omega)
    ·have e1:(summed I).map byteV=C.map byteV++I.map byteV:=by rw[<-List.map_append,summed,HC.out]
     have e2:(summed I).length=C.length+I.length:=by rw[summed,HC.out,List.length_append]
     unfold OwnB;rw[hI,e1,e2];exact J8 hown10 HE.out.size
end
section
open Go.RowKit Go.Lib Go.Maps Dk Pl
def sfx(id:Nat):Nat->Nm
 | 0=>[]
 | k+1=>digit (id/10^k)::sfx id k
theorem a7l(kind:Nm)(id:Nat):D7 kind id=kind++sfx id 6:=by
 simp[D7,sfx]
theorem b58(id:Nat):∀k,(sfx id k).length=k:=by
 intro k
 induction k with
 | zero=>rfl
 | succ k ih=>simp[sfx,ih]
theorem a8l(a b:Nm):(⟨a.toArray⟩:ByteArray)++(⟨b.toArray⟩:ByteArray)=⟨(a++b).toArray⟩:=by
 apply ByteArray.ext;simp
theorem b7O(n:Nat):(digit n).toNat=48+n%10:=by
 unfold digit;rw[UInt8.toNat_ofNat'];omega
theorem b4H(n:Nat):Value.int .u8 (((48+n%10:Nat)):Int)=byteV (digit n):=by
 unfold byteV;rw[b7O]
theorem a2y(kind:Nm)(id:Nat)(w:World)(hk:kind.length<=1000)(hid:id<=999999):
 Calls Tryz.prog 20 #[strV kind,.int .i64 id] w fun e w'=>e=.returned (strV (D7 kind id))/\Ext w w':=by
 unfold strV;go_enter Tryz.func20,Tryz.ntmps20
 go_wp2;go_loopw [1,5,6] (fun x s i wr=>∃k:Nat,k<=6/\i=.int .i64 k/\x=.int .i64 ((id/10^k:Nat))/\s=.string ⟨(sfx id k).toArray⟩/\Ext w wr) (fun _ _ i _=>6 - (intOf i).toNat)
 case atStart=>exact⟨0,by omega,rfl,by simp,rfl,Ext.refl w⟩
 case round=>
  obtain⟨k,hk6,rfl,rfl,rfl,hE⟩:=hrel;by_cases hlt:k<6
  ·obtain⟨y,hy⟩:∃y,id/10^k=y:=⟨_,rfl⟩;have hyl:y<=999999:=by rw[<-hy];exact Nat.le_trans (Nat.div_le_self _ _) hid
   have hy2:id/10^(k+1)=y/10:=by rw[<-hy,Nat.pow_succ,Nat.div_div_eq_div_mul]
   have hm:((y:Int).tmod 10)=((y%10:Nat):Int):=by
    have:=Int.ofNat_tmod y 10;simpa using this.symm
   have hd:((y:Int).tdiv 10)=((y/10:Nat):Int):=by
    have:=Int.ofNat_tdiv y 10;simpa using this.symm
   rw[hy];have HY:=Lib.hid hy;have HY2:=Lib.hid hy2;have HE:=Lib.hid hE;clear hy hy2 hE;have hnews:Bytes (wr.alloc (.cells #[.int .u8 (48+(y:Int)%10)] 5)) (.slice (some ⟨wr.heap.size,0,none⟩) 1 1) [digit y]:=by
    have e:Value.int .u8 (48+(y:Int)%10)=byteV (digit y):=by rw[<-b4H];simp
    rw[e];exact⟨_,_,rfl,by simp,⟨by omega,fun h=>by cases h⟩,fun _=>⟨_,rfl,World.news_of_block (cs:=#[byteV (digit y)]) (t:=5) (fr:=(0,0)) (heap_alloc_new wr _)⟩⟩
   have hq:=Q8 hnews;have HQ:=Lib.hid hnews;clear hnews;have hsl:(sfx id k).length<=6:=by rw[b58];omega
   go_wp2;go_roundw
   case rel=>
    refine⟨k+1,by omega,by go_num,?_,?_,HE.out.new _⟩
    ·rw[HY2.out];simp
    ·show Value.string (⟨([digit y]:Nm).toArray⟩++⟨(sfx id k).toArray⟩)=_;rw[a8l,show sfx id (k+1)=digit (id/10^k)::sfx id k from rfl,HY.out];rfl
   case measure=>simp[intOf];omega
  ·obtain rfl:k=6:=by omega
   have HE:=Lib.hid hE;clear hE;have hsl:(sfx id 6).length=6:=b58 _ _;go_wp2;go_ret;refine⟨?_,HE.out⟩;rw[a7l,<-a8l];rfl
end
section
open Go.RowKit Go.Lib Go.Maps Dk Pl
theorem Held.laid{w0 wr:World}{F:Nat->Prop}(h:Laid w0)(hE:Ext w0 wr)(hF:∀b,F b->w0.heap.size<=b):Held wr F Laid:=by
 have hlt:0<w0.heap.size:=Classical.byContradiction fun hn=>by
  unfold Laid World.cell? at h;have:w0.heap[0]?=none:=by rw[Array.getElem?_eq_none];omega
  rw[this] at h;cases h
 refine .of (S:=fun b=>b=0) (fun w' hw=>?_) fun b e=>by subst e;exact⟨Nat.lt_of_lt_of_le hlt hE.size,fun hb=>by have:=hF _ hb;omega⟩
 have h2:=Laid.ext h hE;unfold Laid World.cell? at h2⊢;rw[hw _ rfl];exact h2
theorem Held.lift{w0 wr:World}{F:Nat->Prop}{Φ:World->Prop}(h:Held w0 (fun _=>False) Φ)(hE:Ext w0 wr)(hF:∀b,F b->w0.heap.size<=b):Held wr F Φ:=by
 obtain⟨S,h1,h2⟩:=h;exact⟨S,fun b hb=>⟨Nat.lt_of_lt_of_le (h1 b hb).1 hE.size,fun hb'=>by have:=hF b hb';have:=(h1 b hb).1;omega⟩,fun w' hw=>h2 w' fun b hb=>(hw b hb).trans (hE.block b (h1 b hb).1)⟩
structure LSt(w0:World)(a k:Nat)(F:Nat->Prop)(E:D)(wr:World):Prop where
 disk:y9 wr F a E
 built:E.Built k
 ext:Ext w0 wr
 low:∀b,F b->w0.heap.size<=b
theorem LSt.to{w0:World}{a k:Nat}{F:Nat->Prop}{E:D}{wr w':World}(h:LSt w0 a k F E wr)(hE:Ext wr w'):LSt w0 a k F E w':=⟨h.disk.ext hE,h.built,h.ext.trans hE,h.low⟩
theorem LSt.more{w0:World}{a k m:Nat}{F:Nat->Prop}{E:D}{wr:World}(h:LSt w0 a k F E wr)(hk:k<=m):LSt w0 a m F E wr:=⟨h.disk,h.built.more hk,h.ext,h.low⟩
theorem LSt.file{w0:World}{a k:Nat}{F:Nat->Prop}{E:D}{wr w':World}{e:Ending}(h:LSt w0 a k F E wr)(hf:b1G F a (k+1) wr e w'):∃F' E',LSt w0 a (k+1) F' E' w'/\Chg F F' wr w':=by
 obtain⟨-,F',E',hD,hB,hC,hF⟩:=hf;refine⟨F',E',⟨hD,hB,?_,fun b hb=>?_⟩,hC⟩
 ·exact h.ext.trans' (hC.below h.low h.ext.size)
 ·rcases hC.grow b hb with h1|h1
  ·exact h.low b h1
  ·have:=h.ext.size;omega
theorem a5B(kind:Nm)(k:Nat):(D7 kind k).length=kind.length+6:=by simp[D7]
theorem b7y(b:ByteArray):strV b.data.toList=.string b:=rfl
structure a3K(n0:Nat)(F:Nat->Prop)(v:Value)(l:List Int)(w:World):Prop where
 own:OwnI w n0 v l
 off:∀b,v.ownBlock=some b->¬F b
theorem a3K.held{n0:Nat}{F:Nat->Prop}{v:Value}{l:List Int}{w:World}(h:a3K n0 F v l w):Held w F (fun W=>OwnI W n0 v l):=
 .of (Dep.row h.own) fun b hb=>⟨(World.ownsRow.lt h.own b hb).2,h.off b hb⟩
theorem a3K.step{n0:Nat}{F F':Nat->Prop}{v:Value}{l:List Int}{w w':World}(h:a3K n0 F v l w)(c:Chg F F' w w'):a3K n0 F' v l w':=
 ⟨(h.held.step c).get,fun b hb hF=>(c.grow b hF).elim (h.off b hb) fun h1=>by have:=(World.ownsRow.lt h.own b hb).2;omega⟩
theorem a3K.to{n0:Nat}{F:Nat->Prop}{v:Value}{l:List Int}{w w':World}(h:a3K n0 F v l w)(hE:Ext w w'):a3K n0 F v l w':=h.step (Chg.ext hE)
def b52(w:World)(e:Ending)(w':World):Prop:=
 ∃a F d,e=.returned (y8 a)/\y9 w' F a d/\d.Safe/\(∀x∈d.ids,(d.node x).data.length<=1099511627776)/\d.now.length<=400/\(∀p∈d.now,p.1.length<=1000000)/\Ext w w'/\∀b,F b->w.heap.size<=b
theorem b94(v:Value)(d:Dr)(w:World)(h:b1z w v d)(hs:d.Small)(hL:Laid w):
 Calls Tryz.prog 13 #[v,.int .i64 1099511627776] w (b52 w):=by
 obtain⟨v0,v1,v3,rfl,h0,h1,h3⟩:=h;obtain⟨a0,c0,rfl,hl0,hm0⟩:=h0.form;obtain⟨a1,c1,rfl,hl1,hm1⟩:=h1.form;obtain⟨a3,c3,rfl,hl3,hm3,-⟩:=h3.open;obtain⟨w0,hw0⟩:∃w0,w.alloc (.cells #[.slice a0 d.segs.length c0,.slice a1 d.others.length c1,.int .u64 d.gen,.slice a3 d.spoilt.length c3,.bool d.whole,.bool d.without] 27)=w0:=⟨_,rfl⟩;have hb0:o7 w0 w.heap.size 27 #[.slice a0 d.segs.length c0,.slice a1 d.others.length c1,.int .u64 d.gen,.slice a3 d.spoilt.length c3,.bool d.whole,.bool d.without]:=hw0▸o7.new _ _ rfl;have hEw:Ext w w0:=hw0▸(Ext.refl w).new _;have b0:=(hb0.cell 0).trans (show _=some (Value.slice a0 d.segs.length c0) from rfl);have b1:=(hb0.cell 1).trans (show _=some (Value.slice a1 d.others.length c1) from rfl);have b2:=(hb0.cell 2).trans (show _=some (Value.int .u64 d.gen) from rfl);have b3:=(hb0.cell 3).trans (show _=some (Value.slice a3 d.spoilt.length c3) from rfl);have b4:=(hb0.cell 4).trans (show _=some (Value.bool d.whole) from rfl);have b5:=(hb0.cell 5).trans (show _=some (Value.bool d.without) from rfl);have hnew:=b2H 1099511627776 w0 (by omega);have H0:=Lib.hid (h0.ext fun _ _=>a9K.ext hEw);have H1:=Lib.hid (h1.ext fun _ _=>b1y.ext hEw);have H3:=Lib.hid (h3.ext hEw);have HS:=Lib.hid hs;have HL0:=Lib.hid (hL.ext hEw);have HEW:=Lib.hid hEw;have HW0:=Lib.hid hw0;have HNEW:=Lib.hid hnew;have B0:=Lib.hid b0;have B1:=Lib.hid b1;have B2:=Lib.hid b2;have B3:=Lib.hid b3;have B4:=Lib.hid b4;have B5:=Lib.hid b5;clear h0 h1 h3 hs hL hEw hw0 hb0 hnew b0 b1 b2 b3 b4 b5;obtain⟨i0,hi,hz0,hz1,hz2⟩:=info_parts a4q;obtain⟨ii,hii,hi0,hi1,hi2⟩:=info_parts a8T;obtain⟨n0,hn0⟩:∃n0,w0.heap.size=n0:=⟨_,rfl⟩;go_enter Tryz.func13,Tryz.ntmps13
 go_wp2_with fail
 rw[HW0.out];refine HNEW.out.mono ?_;rintro e w1 ⟨a,F1,rfl,hD1,hE1,hF1⟩;have hl1':a3K n0 F1 (.slice none 0 0) [] w1:=⟨⟨rfl,.inl ⟨rfl,rfl⟩⟩,fun b hb=>by cases hb⟩;have HD1:=Lib.hid hD1;have HE1:=Lib.hid hE1;have HF1:=Lib.hid hF1;have HL1:=Lib.hid hl1';clear hD1 hE1 hF1 hl1' HNEW;unfold y8;go_wp2;go_loopw [6,7] (fun ids i wr=>∃(k:Nat)(F:Nat->Prop)(D:D)(l:List Int),k<=d.segs.length/\i=.int .i64 k/\LSt w0 a k F D wr/\l.length<=k/\a3K n0 F ids l wr) (fun _ i _=>d.segs.length - (intOf i).toNat)
 case atStart=>exact⟨0,F1,_,[],by omega,rfl,⟨HD1.out,D.Built.empty,HE1.out,HF1.out⟩,by simp,HL1.out⟩
 case round=>
  obtain⟨k,F,E,l,hk,rfl,hST,hll,hI⟩:=hrel;have b0:=hST.ext.cell B0.out;have HST:=Lib.hid hST;have HI:=Lib.hid hI;obtain⟨ia,ic,hiv⟩:=ownsRow_form hI.own;subst hiv;clear hST hI;have hsg:=HS.out.segs;by_cases hlt:k<d.segs.length
  ·obtain⟨s,hs⟩:∃s,d.segs[k]?=some s:=⟨_,List.getElem?_eq_getElem hlt⟩;have hsm:=List.mem_of_getElem? hs;have hst:=HS.out.tail s hsm;have hsr:=HS.out.recs s hsm;obtain⟨b,rfl,u1,u2,s0,s1,s2,s3,s4,hrec,htail⟩:=(H0.out.ext fun _ _=>a9K.ext HST.out.ext).at hs;obtain⟨ra,rc,rfl,hrc,hrc'⟩:=hrec.form;obtain⟨ta,tc,rfl,htc,htc',-⟩:=htail.open;have HREC:=Lib.hid hrec;have HSR:=Lib.hid hsr;have HTL:=Lib.hid htail;clear hrec htail hs hsm hsr;obtain⟨nb,hnb⟩:∃nb,wr.heap.size=nb:=⟨_,rfl⟩;obtain⟨wA,hwA⟩:∃wA,wr.alloc (.cells #[.int .i64 s.id,.slice ra s.recs.length rc,.slice ta s.tail.length tc,.bool s.listed,.bool s.gone] 94)=wA:=⟨_,rfl⟩;have hbA:o7 wA nb 94 #[.int .i64 s.id,.slice ra s.recs.length rc,.slice ta s.tail.length tc,.bool s.listed,.bool s.gone]:=hwA▸o7.new _ _ hnb;have hEA:Ext wr wA:=hwA▸(Ext.refl wr).new _;have q1:=(hbA.cell 1).trans (show _=some (Value.slice ra s.recs.length rc) from rfl);have q2:=(hbA.cell 2).trans (show _=some (Value.slice ta s.tail.length tc) from rfl);have q3:=(hbA.cell 3).trans (show _=some (Value.bool s.listed) from rfl);have q4:=(hbA.cell 4).trans (show _=some (Value.bool s.gone) from rfl);have hid:=b95 s.id wA;have hboxA:Held wA F (fun W=>o7 W nb 94 #[.int .i64 s.id,.slice ra s.recs.length rc,.slice ta s.tail.length tc,.bool s.listed,.bool s.gone]):=Held.box hbA fun hF=>by have:=HST.out.disk.low nb hF;omega
   have HBA:=Lib.hid hboxA;clear hboxA;have HID:=Lib.hid hid;have HWA:=Lib.hid hwA;have HEA:=Lib.hid hEA;have HNB:=Lib.hid hnb;have Q1:=Lib.hid q1;have Q2:=Lib.hid q2;have Q3:=Lib.hid q3;have Q4:=Lib.hid q4;clear hid hwA hEA hbA q2 q3 q4 hnb;obtain⟨nA,hnA⟩:∃nA,wA.heap.size=nA:=⟨_,rfl⟩;go_wp2_with fail
   rw[HWA.out,HNB.out];refine HID.out.mono ?_;rintro e w2 ⟨y,rfl,hy1,hy2,hw2⟩;rw[hw2];clear hw2;go_wp2;go_loopw [10,11] (fun bs i wq=>∃(j:Nat)(m:List UInt8),j<=s.recs.length/\i=.int .i64 j/\OwnB wq nA bs m/\m.length<=200*j/\Ext wA wq) (fun _ i _=>s.recs.length - (intOf i).toNat)
   case atStart=>exact⟨0,[],by omega,rfl,a4h _ _,by simp,Ext.refl _⟩
   case round=>
    obtain⟨j,m,hj,rfl,hown,hml,hEq⟩:=hrel;obtain⟨ma,mc,rfl⟩:=ownsRow_form hown;have q1:=hEq.cell Q1.out;have HOWN:=Lib.hid hown;have HEQ:=Lib.hid hEq;clear hown hEq;have hrl:=HSR.out.1;by_cases hjl:j<s.recs.length
    ·obtain⟨r,hr⟩:∃r,s.recs[j]?=some r:=⟨_,List.getElem?_eq_getElem hjl⟩;obtain⟨bb,rfl,r0,r1,r2,r3⟩:=(HREC.out.ext fun _ _=>b1x.ext (HEA.out.trans HEQ.out)).at hr;have hrec:=b4u r.seq r.key r.val r.del wr;have HRC:=Lib.hid hrec;clear hrec hr;unfold c4f a7Y at HRC;go_wp2_with fail
     refine HRC.out.mono ?_;rintro e w3 ⟨rfl,hE3⟩;have henc:=b5a r.seq r.key r.val r.del 0 (w3.alloc (.cells #[.int .u64 r.seq,.string r.key,.string r.val,.bool r.del,.int .i64 0] 116));have HEN:=Lib.hid henc;have HE3:=Lib.hid hE3;clear henc hE3;unfold a7Y at HEN;go_wp2_with fail
     refine HEN.out.mono ?_;rintro e w4 ⟨x,n,m2,rfl,hE4,hO4,hl4⟩;have hE34:Ext wr w4:=(HE3.out.new _).trans hE4;by_cases hn:n=0
     ·subst hn;have hsz4:nA<=w4.heap.size:=by have:=HEQ.out.size;have:=hE34.size;omega
      obtain⟨xa,xc,rfl⟩:=ownsRow_form hO4;have hO:=ownsRow_below HOWN.out hE34;have hB4:=hO4.bytes;have HO:=Lib.hid hO;have HB4:=Lib.hid hB4;have HE4:=Lib.hid (HEQ.out.trans hE34);clear hO hB4 hE34 hE4 hO4 HOWN HEN HRC;go_wp2_with (at_builtin;go_must (refine D6 rfl _ _ 25 rfl nA 5 i0 (.int .u8 0) 1 1 Tryz.underlying25 hi hz0 hz1 hz2 rfl (by omega) (.slice ma m.length mc) m.length (m.map byteV) rfl HO.out (.slice xa m2.length xc) m2.length (m2.map byteV) rfl HB4.out (by simp) (a0S m2) (by unfold maxLen;omega) (by omega) hsz4 ?_);intro b5 c5 w5 hown5 hgrow5 hat5;clear hat5)
      have hO5:OwnB w5 nA (.slice b5 (m.length+m2.length) c5) (m++m2):=by
       unfold OwnB;rw[List.map_append,List.length_append];exact hown5
      have hE5:Ext wA w5:=Below.grown HE4.out hgrow5 (by omega) (fun r hr=>by have:=(HO.out.lt r hr);omega);have HO5:=Lib.hid hO5;have HE5:=Lib.hid hE5;clear hO5 hE5 hown5 hgrow5;go_roundw
      case rel=>exact⟨j+1,m++m2,by omega,by go_num,HO5.out,by rw[List.length_append];omega,HE5.out⟩
      case measure=>simp[intOf];omega
     ·have hnn:(n==0)=false:=beq_eq_false_iff_ne.2 hn;have hE4q:=HEQ.out.trans hE34;have hO:=ownsRow_below HOWN.out hE34;have HO:=Lib.hid hO;have HE4:=Lib.hid hE4q;clear hO hE4q hE34 hE4 hO4 hn HOWN;go_wp2;go_roundw
      case rel=>exact⟨j+1,m,by omega,by go_num,HO.out,by omega,HE4.out⟩
      case measure=>simp[intOf];omega
    ·obtain rfl:j=s.recs.length:=by omega
     have q2:=HEQ.out.cell Q2.out;have q4:=HEQ.out.cell Q4.out;have htb:=HTL.out.ext (HEA.out.trans HEQ.out);have hsz5:nA<=wr.heap.size:=by have:=HEQ.out.size;omega
     have HTB:=Lib.hid htb;clear htb;have hszE:=HEQ.out.size;go_wp2_with (at_builtin;go_must (refine D6 rfl _ _ 25 rfl nA 5 i0 (.int .u8 0) 1 1 Tryz.underlying25 hi hz0 hz1 hz2 rfl (by omega) (.slice ma m.length mc) m.length (m.map byteV) rfl HOWN.out (.slice ta s.tail.length tc) s.tail.length (s.tail.map byteV) rfl HTB.out (by simp) (a0S _) (by unfold maxLen;omega) (by omega) hsz5 ?_);intro b5 c5 w5 hown5 hgrow5 hat5;clear hat5;have hE5:=Below.grown HEQ.out hgrow5 hszE (fun r hr=>by have:=(HOWN.out.lt r hr);omega);have q5:=Ext.cell hE5 Q4.out;have HE5:=Lib.hid hE5;clear hE5)
     have hnm:=a2y G8 y w5 (by simp[G8]) hy2;have HNM:=Lib.hid hnm;clear hnm;have hO5:OwnB w5 nA (.slice b5 (m.length+s.tail.length) c5) (m++s.tail):=by
      unfold OwnB;rw[List.map_append,List.length_append];exact hown5
     have HO5:=Lib.hid hO5;clear hO5 hown5 hgrow5 q5 q4 q2 q1 s0 s3 s4;unfold strV G8 at HNM;go_wp2_with fail
     refine HNM.out.mono ?_;rintro e w6 ⟨rfl,hE6⟩;have hst6:LSt w0 a k F E w6:=HST.out.to ((HEA.out.trans HE5.out).trans hE6);have hF6:∀b,F b->b<nA:=fun b hb=>by have:=HST.out.disk.low b hb;have:=HEA.out.size;omega
     have hO6:OwnB w6 nA (.slice b5 (m.length+s.tail.length) c5) (m++s.tail):=ownsRow_below HO5.out hE6;have hby:Held w6 F (fun W=>Bytes W (.slice b5 (m.length+s.tail.length) c5) (m++s.tail)):=(Held.ownB hO6 fun b hb hF=>by have:=(hO6.lt b hb).1;have:=hF6 b hF;omega).mono fun W hW=>OwnB.bytes hW;have hfile:=a5D F a E k (D7 G8 y) _ (m++s.tail) w6 hst6.disk hst6.built (by omega) (by rw[a5B];simp[G8]) hby (by rw[List.length_append];omega) (Held.laid HL0.out hst6.ext hst6.low);have HFL:=Lib.hid hfile;have HST6:=Lib.hid hst6;have HE6:=Lib.hid hE6;clear hfile hst6 hby hO6 hF6 hE6;unfold y8 strV at HFL;go_wp2_with fail
     refine HFL.out.mono ?_;rintro e w7 hfl;obtain rfl:=hfl.1;obtain⟨F7,E7,hst7,hC7⟩:=HST6.out.file hfl;have HST7:=Lib.hid hst7;have HI7:=Lib.hid ((HI.out.to ((HEA.out.trans HE5.out).trans HE6.out)).step hC7);have HB7:=Lib.hid ((HBA.out.ext (Ext.trans HE5.out HE6.out)).step hC7);clear hst7 hC7 hfl;go_wp2_with fail
     rotate_left
     have hx:∃F7 E7,LSt w0 a (k+1) F7 E7 w5/\a3K n0 F7 (.slice ia l.length ic) l w5/\Held w5 F7 (fun W=>o7 W nb 94 #[.int .i64 s.id,.slice ra s.recs.length rc,.slice ta s.tail.length tc,.bool s.listed,.bool s.gone]):=
      ⟨F,E,⟨HST.out.disk.ext (HEA.out.trans HE5.out),HST.out.built.more (by omega),HST.out.ext.trans (HEA.out.trans HE5.out),HST.out.low⟩,HI.out.to (HEA.out.trans HE5.out),HBA.out.ext HE5.out⟩
     obtain⟨F7,E7,hst7,hi7,hb7⟩:=hx;have HST7:=Lib.hid hst7;have HI7:=Lib.hid hi7;have HB7:=Lib.hid hb7;clear hst7 hi7 hb7 hown5 hgrow5 q5 q4 q2 q1 s0 s3 s4;all_goals
      rename World=>wz
      have hin:=c4h (.slice ia l.length ic) l (y:Int) wz HI7.out.own.ints;have q3:=(HB7.out.get.cell 3).trans (show _=some (Value.bool s.listed) from rfl);have HIN:=Lib.hid hin;clear hin;refine HIN.out.mono ?_;rintro e w8 ⟨rfl,hw8⟩;rw[hw8];clear hw8 w8 HIN
      cases hsl:s.listed with
      | false=>
       rw[hsl] at q3;go_wp2;go_roundw
       case rel=>exact⟨k+1,F7,E7,l,by omega,by go_num,HST7.out,by omega,HI7.out⟩
       case measure=>simp[intOf];omega
      | true=>
       rw[hsl] at q3
       cases hyl:decide ((y:Int)∈l) with
       | true=>
        go_wp2;go_roundw
        case rel=>exact⟨k+1,F7,E7,l,by omega,by go_num,HST7.out,by omega,HI7.out⟩
        case measure=>simp[intOf];omega
       | false=>
        have hszz:n0<=wz.heap.size:=by have:=HST7.out.ext.size;omega
        have hsz0:wz.heap.size<=(wz.alloc (.cells #[.int .i64 y] 3)).heap.size:=by simp
        go_wp2_with (at_builtin;go_must (refine D6 rfl _ _ 69 rfl n0 3 ii (.int .i64 0) 1 8 Tryz.underlying69 hii hi0 hi1 hi2 rfl (by omega) (.slice ia l.length ic) l.length _ rfl (World.ownsRow.alloc HI7.out.own (.cells #[.int .i64 y] 3)) (.slice (some ⟨wz.heap.size,0,none⟩) 1 1) 1 [.int .i64 y] rfl (a6U wz _ _) rfl (by simp[Value.oneCell']) (by unfold maxLen;omega) (by omega) (by omega) ?_);intro b9 c9 w9 hown9 hgrow9 hat9)
        have hO9:OwnI w9 n0 (.slice b9 (l.length+1) c9) (l++[(y:Int)]):=by
         unfold OwnI;rw[List.map_append,List.length_append];exact hown9
        have hEz:Ext w0 (wz.alloc (.cells #[.int .i64 y] 3)):=HST7.out.ext.new _;have hE9:Ext w0 w9:=Below.grown hEz hgrow9 (by have:=hEz.size;omega) (fun r hr=>by have:=(World.ownsRow.lt HI7.out.own r hr).1;omega);have hD9:y9 w9 F7 a E7:=HST7.out.disk.frame (fun b hb=>by
         have hlt:=HST7.out.disk.low b hb;refine(hgrow9.block b (by simp;omega) (fun e=>HI7.out.off b e.symm hb)).trans ?_;exact heap_alloc_old _ _ hlt) (by have:=hgrow9.size;omega)
        have hI9:a3K n0 F7 (.slice b9 (l.length+1) c9) (l++[(y:Int)]) w9:=⟨hO9,fun b hb hF=>by
         rcases hat9 with h|h
         ·exact HI7.out.off b (h.symm.trans hb) hF
         ·have:=HST7.out.disk.low b hF;rw[h] at hb;injection hb with hb;simp at hb;omega⟩
        have HST9:=Lib.hid (⟨hD9,HST7.out.built,hE9,HST7.out.low⟩:LSt w0 a (k+1) F7 E7 w9);have HI9:=Lib.hid hI9;clear hO9 hEz hE9 hD9 hI9 hown9 hgrow9 hat9;go_roundw
        case rel=>exact⟨k+1,F7,E7,l++[(y:Int)],by omega,by go_num,HST9.out,by simp;omega,HI9.out⟩
        case measure=>simp[intOf];omega
  ·obtain rfl:k=d.segs.length:=by omega
   have b2:=HST.out.ext.cell B2.out;have hwm:=a7Z d.gen (.slice ia l.length ic) l wr HI.out.own.ints;have HWM:=Lib.hid hwm;clear hwm;obtain⟨nB,hnB⟩:∃nB,wr.heap.size=nB:=⟨_,rfl⟩;go_wp2_with fail
   refine HWM.out.mono ?_;rintro e w2 ⟨x,rfl,hE2,hcase⟩;obtain⟨ml,hml,hox⟩:∃ml:List UInt8,ml.length<=300/\OwnB w2 nB x ml:=by
    rcases hcase with⟨hok,hO⟩|⟨-,rfl⟩
    ·have h60:l.length<=60:=by unfold a0g at hok;simp only[Bool.and_eq_true,decide_eq_true_eq] at hok;exact hok.1
     exact⟨_,by unfold summed a1o;simp[H7,a2d];omega,hnB▸hO⟩
    ·exact⟨[],by simp,a4h _ _⟩
   obtain⟨xa,xc,rfl⟩:=ownsRow_form hox;have hst2:=HST.out.to hE2;have b3:=hst2.ext.cell B3.out;have b4:=hst2.ext.cell B4.out;have hsz2:nB<=w2.heap.size:=by have:=hE2.size;omega
   have hsp:=HS.out.spoilt;have HOX:=Lib.hid hox;have HST2:=Lib.hid hst2;have HSB:=Lib.hid (H3.out.ext hst2.ext);have HE2:=Lib.hid hE2;obtain⟨z,hz⟩:∃z,(if a0g l=true then(0:Int) else 4)=z:=⟨_,rfl⟩;rw[hz];clear hox hst2 hcase hE2 hz b0 b2;go_upto_region 24 with fail
   go_cut [103] (fun c wx=>wx=w2/\c=.bool (decide (0<d.spoilt.length)&&!d.whole))
   case first=>
    by_cases hs0:0<d.spoilt.length
    ·have he:(decide (0<d.spoilt.length)&&!d.whole) = !d.whole:=by rw[decide_eq_true hs0];rfl
     go_wp2_with fail
     go_meet
     exact⟨rfl,by rw[he]⟩
    ·have he:(decide (0<d.spoilt.length)&&!d.whole)=false:=by rw[decide_eq_false hs0];rfl
     go_wp2_with fail
     go_meet
     exact⟨rfl,by rw[he]⟩
   case rest=>
    obtain⟨hwc,rfl⟩:=hcut;subst hwc;generalize (decide (0<d.spoilt.length)&&!d.whole)=cc;go_upto_if 103 with fail
    go_cut [17] (fun v wx=>wx=wc/\∃l':List UInt8,l'.length<=300/\OwnB wx nB v l')
    case first=>
     cases cc
     ·go_wp2_with fail
      go_meet
      exact⟨rfl,ml,hml,HOX.out⟩
     ·go_wp2_with fail
      go_meet
      exact⟨rfl,[],by simp,a4h _ _⟩
    case rest=>
     obtain⟨hwc,ml2,hml2,hox2⟩:=hcut;obtain⟨xa2,xc2,rfl⟩:=ownsRow_form hox2;subst hwc;have HOX2:=Lib.hid hox2;clear hox2 HOX;go_upto_if 110 with(at_builtin;go_must (refine D6 rfl _ _ 25 rfl nB 5 i0 (.int .u8 0) 1 1 Tryz.underlying25 hi hz0 hz1 hz2 rfl (by omega) (.slice xa2 ml2.length xc2) ml2.length (ml2.map byteV) rfl HOX2.out (.slice a3 d.spoilt.length c3) d.spoilt.length (d.spoilt.map byteV) rfl HSB.out (by simp) (a0S _) (by unfold maxLen;omega) (by omega) hsz2 ?_);intro b10 c10 w10 hown10 hgrow10 hat10;clear hat10;obtain⟨u10,hu10⟩:∃u,Value.slice b10 (ml2.length+d.spoilt.length) c10=u:=⟨_,rfl⟩;rw[hu10] at hown10⊢;obtain⟨lst,hl10,hO10⟩:∃lst:List UInt8,lst.length<=41000/\OwnB w10 nB u10 lst:=⟨ml2++d.spoilt,by rw[List.length_append];omega,by unfold OwnB;rw[List.map_append,List.length_append];exact hown10⟩;have hst10:=HST.out.to (Below.grown HE2.out hgrow10 HE2.out.size (fun r hr=>by have:=(HOX2.out.lt r hr);omega));have b5:=hst10.ext.cell B5.out;have HO10:=Lib.hid hO10;have HST10:=Lib.hid hst10;clear hO10 hst10 hown10 hgrow10 hu10)
     go_cut [5] (fun v wx=>v=.pointer (some ⟨a,0,none⟩)/\∃F7 E7,LSt w0 a 61 F7 E7 wx)
     case first=>
      have hby:Held w10 F (fun W=>Bytes W u10 lst):=(Held.ownB HO10.out fun b hb hF=>by have:=(HO10.out.lt b hb).1;have:=HST.out.disk.low b hF;omega).mono fun W hW=>OwnB.bytes hW;have hfile:=a5D F a E d.segs.length H9 u10 lst w10 HST10.out.disk HST10.out.built (by omega) (by simp[H9]) hby (by omega) (Held.laid HL0.out HST10.out.ext HST10.out.low);unfold y8 strV H9 at hfile;have HFILE:=Lib.hid hfile;clear hfile hby;go_wp2_with fail
      all_goals
       first
       | (refine HFILE.out.mono ?_
          rintro e wz hfl;obtain rfl:=hfl.1;obtain⟨F7,E7,hst7,-⟩:=HST10.out.file hfl;have HST7:=Lib.hid (hst7.more (m:=61) (by omega));clear hst7 hfl;go_wp2_with fail
          go_meet
          exact⟨rfl,F7,E7,HST7.out⟩)
       | (go_meet
          exact⟨rfl,F,E,HST10.out.more (by omega)⟩)
     case rest=>
      obtain⟨rfl,F7,E7,hst7⟩:=hcut;have HST7:=Lib.hid hst7;clear b5 b4 b3 hst7 HO10 HST10 HSB HOX2 HI HST HE2 HWM;go_wp2_with fail
      go_loopw [19] (fun i wq=>∃(k2:Nat)(F:Nat->Prop)(E:D),k2<=d.others.length/\i=.int .i64 k2/\LSt w0 a (61+k2) F E wq) (fun i _=>d.others.length - (intOf i).toNat)
      case atStart=>exact⟨0,F7,E7,by omega,rfl,HST7.out⟩
      case round=>
       obtain⟨k2,F,E,hk2,rfl,hST⟩:=hrel;have b1:=hST.ext.cell B1.out;have HST:=Lib.hid hST;clear hST;have hot:=HS.out.others;by_cases hlt2:k2<d.others.length
       ·obtain⟨s,hs⟩:∃s,d.others[k2]?=some s:=⟨_,List.getElem?_eq_getElem hlt2⟩;obtain⟨hn1,hn2⟩:=HS.out.other s (List.mem_of_getElem? hs);obtain⟨b,rfl,u2,s0,s1,s2,hby⟩:=H1.out.at hs;replace s0:=HST.out.ext.cell s0;replace s1:=HST.out.ext.cell s1;replace s2:=HST.out.ext.cell s2;obtain⟨ba,bc,rfl,hbc,hbc',-⟩:=hby.open;have hbh:Held w0 (fun _=>False) (fun W=>Bytes W (.slice ba s.bytes.length bc) s.bytes):=Held.bytes hby (fun _ _ _ _ h=>h);have HBH:=Lib.hid hbh;clear hbh hby hs;by_cases hh:0<s.hint
        ·have hid:=b95 s.hint wr;have HID:=Lib.hid hid;clear hid;go_wp2_with fail
         refine HID.out.mono ?_;rintro e w2 ⟨y,rfl,hy1,hy2,hw2⟩;rw[hw2];clear hw2 w2;have hnm:=a2y a8w y wr (by simp[a8w]) hy2;have HNM:=Lib.hid hnm;clear hnm;unfold strV a8w at HNM;go_wp2_with fail
         refine HNM.out.mono ?_;rintro e w6 ⟨rfl,hE6⟩;have hst6:=HST.out.to hE6;have d1:=hE6.cell b1;have t2:=hE6.cell s2;have hfile:=a5D F a E (61+k2) (D7 a8w y) _ s.bytes w6 hst6.disk hst6.built (by omega) (by rw[a5B];simp[a8w]) (HBH.out.lift hst6.ext hst6.low) (by omega) (Held.laid HL0.out hst6.ext hst6.low);have HFL:=Lib.hid hfile;have HST6:=Lib.hid hst6;clear hfile hst6 hE6 b1 s0 s1 s2;unfold y8 strV a8w at HFL;go_wp2_with fail
         refine HFL.out.mono ?_;rintro e w7 hfl;obtain rfl:=hfl.1;obtain⟨F8,E8,hst8,-⟩:=HST6.out.file hfl;have HST8:=Lib.hid hst8;clear hst8 hfl;go_wp2_with fail
         go_roundw
         case rel=>exact⟨k2+1,F8,E8,by omega,by go_num,HST8.out⟩
         case measure=>simp[intOf];omega
        ·have hfile:=a5D F a E (61+k2) s.name.data.toList _ s.bytes wr HST.out.disk HST.out.built (by omega) (by have:=I8 s.name;omega) (HBH.out.lift HST.out.ext HST.out.low) (by omega) (Held.laid HL0.out HST.out.ext HST.out.low);rw[b7y] at hfile;have HFL:=Lib.hid hfile;clear hfile;unfold y8 at HFL;go_wp2_with fail
         refine HFL.out.mono ?_;rintro e w7 hfl;obtain rfl:=hfl.1;obtain⟨F8,E8,hst8,-⟩:=HST.out.file hfl;have HST8:=Lib.hid hst8;clear hst8 hfl;go_wp2_with fail
         go_roundw
         case rel=>exact⟨k2+1,F8,E8,by omega,by go_num,HST8.out⟩
         case measure=>simp[intOf];omega
       ·obtain rfl:k2=d.others.length:=by omega
        have hsy:=b2J F a E wr HST.out.disk (by have:=HST.out.built.mlen;omega) (fun l hl=>⟨(HST.out.built.mnames l hl).1,fun m hm=>by have:=(HST.out.built.mnames l hl).2 m hm;unfold maxLen;omega⟩);obtain⟨E',hE',hsafe,hnow,hids,hnode⟩:=HST.out.built.syncDir;rw[hE'] at hsy;have HSY:=Lib.hid hsy;clear hsy;unfold y8 at HSY;go_wp2_with fail
        refine HSY.out.mono ?_;rintro e w7 ⟨F8,v8,rfl,-,hD8,hC8,-⟩;have hfin:b52 w (.returned (y8 a)) w7:=by
         refine⟨a,F8,E',rfl,hD8,hsafe,fun x hx=>?_,?_,fun p hp=>?_,?_,fun b hb=>?_⟩
         ·rw[hnode];rw[hids] at hx;exact HST.out.built.bound x hx
         ·rw[hnow];have:=HST.out.built.len;omega
         ·rw[hnow] at hp;exact HST.out.built.names p hp
         ·exact HEW.out.trans (HST.out.ext.trans' (hC8.below HST.out.low HST.out.ext.size))
         ·have h1:=HEW.out.size;have h2:=HST.out.ext.size;rcases hC8.grow b hb with h|h
          ·have:=HST.out.low b h;omega
          ·omega
        have HFN:=Lib.hid hfin;clear hfin hD8 hC8;unfold y8 at HFN;go_wp2;go_ret;exact HFN.out
end
end Go.Proofs.YtgpbhjjajpbeeaaGreatDoor
