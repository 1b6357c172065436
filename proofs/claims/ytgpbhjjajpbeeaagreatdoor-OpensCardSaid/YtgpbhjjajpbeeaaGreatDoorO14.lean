/- A part of what the last file proves. -/
import Derived.Test.YtgpbhjjajpbeeaaGreatDoorO13
import Derived.Shelf.Strings.SlTrimAscii
import Derived.Conc.WgGenN3
import Derived.Conc.MuWords
import Derived.Below
set_option linter.all false
set_option maxRecDepth 100000
set_option maxHeartbeats 8000000
open Go.Proofs.Tryz
namespace Go.Proofs.YtgpbhjjajpbeeaaGreatDoor
section
open Go.RowKit Go.Lib Pl
def EE(b:Bool)(w:World)(e:Ending)(w':World):Prop:=e=.returned (.bool b)/\∃n,w'=w.drewN n
theorem drewN_drewN(w:World)(a b:Nat):(w.drewN a).drewN b=w.drewN (a+b):=by
 induction b with
 | zero=>rfl
 | succ b ih=>show((w.drewN a).drewN b).drew=(w.drewN (a+b)).drew;rw[ih]
theorem c0D{α:Type}{l m:List α}{k:Nat}(hk:k<l.length)(hm:k<m.length)(h:l[k]≠m[k]):l≠m:=by
 rintro rfl;exact h rfl
theorem b41{α:Type}{l m:List α}{k:Nat}(h:l.take k=m.take k)(hk:k<l.length)(hm:k<m.length)(e:l[k]=m[k]):l.take (k+1)=m.take (k+1):=by
 rw[take_snoc l k hk,take_snoc m k hm,h,e]
theorem c0E(v u:Value)(l m:List UInt8)(w:World)(h:Bytes w v l)(h':Bytes w u m):
 Calls prog 29 #[v,u] w (EE (decide (l=m)) w):=by
 obtain⟨a,cap,rfl,hc,hc',-⟩:=h.open;obtain⟨a2,cap2,rfl,hd,hd',-⟩:=h'.open;have H:=ah h;have H':=ah h';clear h h';by_cases hl:l.length=m.length
 ·have hl':((l.length:Int) != (m.length:Int))=false:=by rw[bne,dP.2 (by omega)];rfl
  go_enter func29,ntmps29
  go_wp2;go_loopw [5] (λi w'=>∃k:Nat,k<=l.length/\i=.int .i64 k/\l.take k=m.take k/\∃n,w'=w.drewN n) (λi _=>l.length - (intOf i).toNat)
  case atStart=>exact⟨0,bU _,rfl,rfl,0,rfl⟩
  case round=>
   obtain⟨k,hk,rfl,ht,n,rfl⟩:=hrel;by_cases hlt:k<l.length
   ·have hx:=H.out.ext (Ext.drewN w n);have hy:=H'.out.ext (Ext.drewN w n);obtain⟨b,rfl,hb⟩:∃b,a=some b/\(w.drewN n).cell? (b.add k)=some (.int .u8 (l[k]).toNat):=by
     obtain⟨a',c',e,_,_,hf⟩:=hx.open;injection e with e1;subst e1;exact hf k hlt
    obtain⟨b2,rfl,hb2⟩:∃b,a2=some b/\(w.drewN n).cell? (b.add k)=some (.int .u8 (m[k]'(by omega)).toNat):=by
     obtain⟨a',c',e,_,_,hf⟩:=hy.open;injection e with e1;subst e1;exact hf k (by omega)
    clear hx hy;have hkm:k<m.length:=by omega
    have Ht:=ah ht;clear ht;by_cases he:l[k]=m[k]
    ·have he':(((l[k]).toNat:Int) != ((m[k]).toNat:Int))=false:=by rw[bne,dP.2 (by rw[he])];rfl
     have Hn:Hid (l.take (k+1)=m.take (k+1)):=b41 Ht.out hlt hkm he;clear he;generalize hwn:w.drewN n=wn at *;go_wp2;go_quiet (fail)
     go_wp2;go_roundw
     case rel=>exact⟨k+1,by omega,by go_num,Hn.out,n+nq,by rw[<-hwn,drewN_drewN]⟩
     case measure=>simp[intOf];omega
    ·have hne:((l[k]).toNat:Int)≠((m[k]).toNat:Int):=λe=>he (UInt8.toNat_inj.1 (by omega));have he':(((l[k]).toNat:Int) != ((m[k]).toNat:Int))=true:=by rw[bne,bn.2 hne];rfl
     clear hne;have Hd:Hid (l≠m):=c0D hlt hkm he;clear he;generalize hwn:w.drewN n=wn at *;go_wp2;go_quiet (fail)
     go_wp2;go_ret;exact⟨by rw[aI Hd.out];rfl,n+nq,by rw[<-hwn,drewN_drewN]⟩
   ·go_wp2;go_ret;have:l=m:=by
     have h1:=eG (l:=l) (i:=k) (by omega);have h2:=eG (l:=m) (i:=k) (by omega);rw[<-h1,<-h2];exact ht
    exact⟨by rw[aG this];rfl,n,rfl⟩
 ·have hl':((l.length:Int) != (m.length:Int))=true:=by rw[bne,bn.2 (by omega)];rfl
  go_enter func29,ntmps29
  go_wp2;go_ret;exact⟨by rw[aI (by rintro rfl;exact hl rfl)];rfl,0,rfl⟩
theorem zw(n:Int)(w:World):Calls prog 18 #[.int .i64 n] w λe w'=>e=.returned (.int .i64 n)/\w=w':=by
 go_enter func18,ntmps18
 go_wp2;go_ret;exact⟨rfl,rfl⟩
theorem b42(seq:Nat)(k v:ByteArray)(d:Bool)(w:World):
 Calls prog 48 #[YO seq k v d] w λe w'=>e=.returned (w_ seq k v d 0)/\Ext w w':=by
 unfold YO;go_enter func48,ntmps48
 go_wp2;refine bodyPost_ret (v:=w_ seq k v d 0) (by simp[results,results48,go_sem,w_]) rfl ⟨rfl,((Ext.refl w).new _).new _⟩
end
section
open Go.RowKit Go.Lib Go.Maps Dk
def X7(p:Nm×Value):List Value:=[bC p.1,p.2]
def Y2(w:World)(v:Value)(l:Fl):Prop:=
 ∃(a:Option Addr)(cap:Nat)(rows:List (Nm×Value)),v=.slice a l.length cap/\l.length<=cap/\cap<=9223372036854775807/\rows.length=l.length/\
  (∀(i:Nat)p,rows[i]?=some p->∃g,a=some ⟨g,0,none⟩/\w.cell? ⟨g,i*2,none⟩=some (bC p.1)/\w.cell? ⟨g,i*2+1,none⟩=some p.2)/\
  ∀(i:Nat)p q,rows[i]?=some p->l[i]?=some q->p.1=q.1/\Bytes w p.2 q.2
theorem AH(rows:List (Nm×Value))(i:Nat)(p:Nm×Value)(h:rows[i]?=some p)(j:Nat)(hj:j<2):(rows.flatMap X7)[2*i+j]?=(X7 p)[j]?:=by
 induction rows generalizing i with
 | nil=>simp at h
 | cons y l ih=>
  rw[iW]
  cases i with
  | zero=>
   simp at h;subst h
   rw[bH (by simp[X7];omega)];simp
  | succ i=>
   simp at h;rw[bF (by simp[X7];omega),show 2*(i+1)+j - (X7 y).length=2*i+j by simp[X7];omega];exact ih i h
def P_(rows:List (Nm×Value))(x:Value):Prop:=(∃s,x=.string s)\/x=.slice none 0 0\/∃p∈rows,x=p.2
def qK(w:World)(B:Nat)(v:Value)(rows:List (Nm×Value))(l:Fl):Prop:=
 w.ownsRow B 77 2 v rows.length (rows.flatMap X7)/\rows.length=l.length/\(∀(i:Nat)p q,rows[i]?=some p->l[i]?=some q->p.1=q.1/\OwnB w B p.2 q.2)/\uQ (P_ rows) w v/\∀p∈rows,ug w p.2
theorem qK.files{w:World}{B:Nat}{v:Value}{rows:List (Nm×Value)}{l:Fl}(h:qK w B v rows l):Y2 w v l:=by
 obtain⟨h1,h2,h3,-⟩:=h;have hm:maxLen<=9223372036854775807:=by unfold maxLen;omega
 rcases h1.2 with⟨rfl,h0⟩|⟨g,cap,cur,rfl,_,hb,h4,h5,h6,h7⟩
 ·refine⟨none,0,rows,by rw[<-h2,h0],by omega,by omega,h2,λi p hp=>?_,λi p q hp hq=>⟨(h3 i p q hp hq).1,(h3 i p q hp hq).2.bytes⟩⟩;have:=(aT.1 hp).1;omega
 ·refine⟨some ⟨g,0,none⟩,cap,rows,by rw[h2],by omega,by omega,h2,λi p hp=>⟨g,rfl,?_,?_⟩,λi p q hp hq=>⟨(h3 i p q hp hq).1,(h3 i p q hp hq).2.bytes⟩⟩
  ·have e:=AH rows i p hp 0 (by omega);rw[<-h7,dA] at e;split at e
   ·simp only[World.cell?,hb];rw[show i*2=2*i+0 by omega];simpa [X7] using e
   ·simp[X7] at e
  ·have e:=AH rows i p hp 1 (by omega);rw[<-h7,dA] at e;split at e
   ·simp only[World.cell?,hb];rw[show i*2+1=2*i+1 by omega];simpa [X7] using e
   ·simp[X7] at e
theorem qK.keep{w w':World}{B:Nat}{v:Value}{rows:List (Nm×Value)}{l:Fl}(h:qK w B v rows l)(hk:∀b,B<=b->b<w.heap.size->w'.heap[b]?=w.heap[b]?):qK w' B v rows l:=by
 obtain⟨h1,h2,h3,h4,h5⟩:=h;refine⟨iV.row h1 w' λb hb=>hk b (h1.lt b hb).1 (h1.lt b hb).2,h2,λi p q hp hq=>⟨(h3 i p q hp hq).1,?_⟩,h4.keep λb hb=>hk b (h1.lt b hb).1 (h1.lt b hb).2,λp hp=>?_⟩
 ·have ho:=(h3 i p q hp hq).2;exact iV.row ho w' λb hb=>hk b (World.ownsRow.lt ho b hb).1 (World.ownsRow.lt ho b hb).2
 ·obtain⟨i,hi⟩:=dY hp;have hil:i<l.length:=by have:=(aT.1 hi).1;omega
  have ho:=(h3 i p _ hi (au hil)).2;exact(h5 p hp).keep λb hb=>hk b (World.ownsRow.lt ho b hb).1 (World.ownsRow.lt ho b hb).2
theorem Ee.keep{w w':World}{B:Nat}{v:Value}{l:List Nm}(h:Ee w B v l)(hk:∀b,B<=b->b<w.heap.size->w'.heap[b]?=w.heap[b]?):Ee w' B v l:=
 iV.row h w' λb hb=>hk b (World.ownsRow.lt h b hb).1 (World.ownsRow.lt h b hb).2
theorem qK.held{w:World}{F:Nat->Prop}{B:Nat}{v:Value}{rows:List (Nm×Value)}{l:Fl}(h:qK w B v rows l)(hF:∀b,F b->b<B):Held w F (λW=>Y2 W v l):=
 ⟨λb=>B<=b/\b<w.heap.size,λb hb=>⟨hb.2,λhF'=>by have:=hF b hF';omega⟩,λw' hw=>(h.keep λb h1 h2=>hw b ⟨h1,h2⟩).files⟩
theorem qK.nil(w:World)(B:Nat):qK w B (.slice none 0 0) [] []:=⟨⟨rfl,Or.inl ⟨rfl,rfl⟩⟩,rfl,(by simp),(λg c e fr h=>by cases h),(by simp)⟩
theorem fA.grown{F:Nat->Prop}{w w1 w2:World}{row:Option Nat}(h:fA F F w w1)(hg:w1.grownBy w2 row)(hr:∀k,row=some k->w.heap.size<=k):fA F F w w2:=
 ⟨hg.os.trans h.os,hg.tape.trans h.tape,hg.output.trans h.output,ay h.size hg.size,λb hb hF=>(hg.block b (ak hb h.size) (λe=>by have:=hr b e.symm;omega)).trans (h.block b hb hF),λb hb=>.inl hb⟩
theorem Ee.cell{w:World}{B:Nat}{v:Value}{l:List Nm}(h:Ee w B v l){k:Nat}{n:Nm}(hk:l[k]?=some n):∃b c,v=.slice (some ⟨b,0,none⟩) l.length c/\w.cell? ⟨b,k,none⟩=some (bC n):=by
 obtain⟨h1,h2⟩:=h;have hkl:k<l.length:=(aT.1 hk).1;rcases h2 with⟨rfl,h0⟩|⟨g,cap,cur,rfl,_,hb,h3,h4,h5,h6⟩
 ·omega
 ·refine⟨g,cap,rfl,?_⟩;have e:(l.map bC)[k]?=some (bC n):=by rw[aZ,hk];rfl
  rw[<-h6,dA] at e;split at e
  ·simp only[World.cell?,hb];simpa using e
  ·cases e
theorem b7B:(prog.info? 77).map (λi=>(i.zero,i.size,i.bytes))=some (some (.agg #[.string ⟨#[]⟩,.slice none 0 0]),2,40):=by kernel_rfl
theorem M1(d:D)(n:Nm)(h:n∈d.list):∃b,d.file n=some b:=by
 cases e:d.file n with
 | none=>
  unfold D.file at e;rw[Option.map_eq_none_iff,J9,<-Kr] at e
  exact absurd h e
 | some b=>exact⟨b,rfl⟩
theorem AG{d:D}(hw:d.Wf){c:Nat}(hds:∀x∈d.ids,(d.node x).data.length<=c){n:Nm}{b:List UInt8}(h:d.file n=some b):b.length<=c:=by
 unfold D.file at h;obtain⟨x,hx,rfl⟩:=aS.1 h;exact hds x (hw.now _ (Ad hx))
def YN(F:Nat->Prop)(a:Nat)(d:D)(w:World)(e:Ending)(w':World):Prop:=
 ∃v rows,e=.returned v/\qK w' w.heap.size v rows d.files/\A7 w' F a d/\fA F F w w'
theorem Ut(F:Nat->Prop)(a:Nat)(d:D)(w:World)(h:A7 w F a d)(hc:d.Calm)(hnl:d.now.length<=32768)(hds:∀x∈d.ids,(d.node x).data.length<=35184372088832)(hnm:∀p∈d.now,p.1.length<=maxLen):
 Calls prog 16 #[o7 a] w (YN F a d w):=by
 have hlist:=b98 F a d w h hnl;have hlow:=h.low;have hll:d.list.length<=32768:=by unfold D.list;simpa using hnl
 have hnm':∀n∈d.list,n.length<=maxLen:=by
  intro n hn;rw[Kr] at hn;obtain⟨p,hp,rfl⟩:=bg.1 hn;exact hnm p hp
 obtain⟨i0,hi,hz0,hz1,hz2⟩:=info_parts b7B;have HL:=ah hlist;have HD:=ah h;have Dt:=ah hlow;have EY:=ah hds;have vC:=ah hnm';have HC:=ah hc;have HW:=ah h.wf;clear hlist h hlow hds hnm hnm' hc;unfold o7 at HL;show Calls prog 16 #[.pointer (some ⟨a,0,none⟩)] w (YN F a d w);go_enter func16,ntmps16
 go_wp2_with fail
 refine HL.out.mono ?_;rintro e w1 ⟨nv,rfl,hN,hE⟩;have HN:=ah hN;have HE:=ah hE;clear hN hE HL;go_wp2;go_loopw [3,5] (λu i wr=>∃(k:Nat)(rows:List (Nm×Value)),k<=d.list.length/\i=.int .i64 k/\qK wr w.heap.size u rows (d.files.take k)/\Ee wr w.heap.size nv d.list/\A7 wr F a d/\fA F F w wr) (λ_ i _=>d.list.length - (intOf i).toNat)
 case atStart=>exact⟨0,[],bU _,rfl,qK.nil _ _,HN.out,HD.out.ext HE.out,fA.ext HE.out⟩
 case round=>
  obtain⟨k,rows,hk,rfl,hR,Ou,hD,hC⟩:=hrel;obtain⟨na,nc,nE⟩:=ownsRow_form Ou;obtain⟨ua,uc,hu⟩:=ownsRow_form hR.1;have hrl:rows.length<=32768:=by have:=hR.2.1;rw[bD] at this;omega
  by_cases hlt:k<d.list.length
  ·obtain⟨nm,hm⟩:∃nm,d.list[k]?=some nm:=⟨_,au hlt⟩;have hmem:nm∈d.list:=aJ hm;obtain⟨fb,hfb⟩:=M1 d nm hmem;have hfl:=AG HW.out EY.out hfb;obtain⟨nb,nc',XD,hcell⟩:=Ou.cell hm;have hsize:=size_any F a d nm wr hD (vC.out nm hmem);rw[HC.out.size,hfb] at hsize;subst XD;have hlow2:∀b,F b->b<w.heap.size:=Dt.out;have hkeep:∀(x y:World),fA F F x y->∀b,w.heap.size<=b->b<x.heap.size->y.heap[b]?=x.heap[b]?:=λx y hxy b hb hbx=>hxy.block b hbx (λhF=>by have:=hlow2 b hF;omega);have HS:=ah hsize;have HR:=ah hR;have eQ:=ah Ou;have it:=ah hC;have il:=ah hfb;have HK:=ah hkeep;have HM:=ah hm;have Dl:=ah (vC.out nm hmem);clear hsize hR Ou hD hC hfb hkeep hm nE hlow2;unfold bC at hcell;unfold o7 bC at HS;subst hu;go_wp2_with fail
   refine HS.out.mono ?_;rintro e w2 ⟨v2,rfl,_,hD2,hC2⟩;have hR2:=HR.out.keep (HK.out _ _ hC2);have BN:=eQ.out.keep (HK.out _ _ hC2);have hrd:=RB F a d nm 0 (fb.length:Int) w2 hD2 Dl.out (by omega) (by omega) (λx hx=>ay (EY.out x hx) (by omega));rw[HC.out.iE,il.out] at hrd;simp only[C5] at hrd;obtain⟨nb2,nc2,XC,hcell2⟩:=BN.cell HM.out;injection XC with e1 e2 e3;injection e1 with e1;injection e1 with e1;subst e1;subst e3;have lY:=ah hrd;have HC2:=ah (it.out.trans hC2);have HR2:=ah hR2;have Dn:=ah BN;clear hrd hC2 hR2 BN hcell e2 hD2 HR eQ it HS;unfold bC at hcell2;unfold o7 bC at lY;go_wp2_with fail
   refine lY.out.mono ?_;rintro e w3 ⟨bv,v3,rfl,hB3,_,hD3,mD,hF3⟩;have Jt:=HR2.out.keep (HK.out _ _ mD);have hN3:=Dn.out.keep (HK.out _ _ mD);have pP:=HC2.out.trans mD;have OM:OwnB w3 w.heap.size bv fb:=O4 hB3 HC2.out.size;obtain⟨nb3,nc3,XB,FV⟩:=hN3.cell HM.out;injection XB with e1 e2 e3;injection e1 with e1;injection e1 with e1;subst e1;subst e3;have hrow:=Jt.1;obtain⟨ba,bc,hbv⟩:=ownsRow_form hB3;subst hbv;have fz:∀x∈(Value.agg #[.string ⟨#[]⟩,.slice none 0 0]).cells,P_ (rows++[(nm,Value.slice ba fb.length bc)]) x:=λx hx=>by
    rcases(by simpa [Value.cells] using hx:x=.string ⟨#[]⟩\/x=.slice none 0 0) with rfl|rfl
    ·exact .inl ⟨_,rfl⟩
    ·exact .inr (.inl rfl)
   have fn:∀x∈[bC nm,Value.slice ba fb.length bc],P_ (rows++[(nm,Value.slice ba fb.length bc)]) x:=λx hx=>by
    rcases(by simpa using hx:x=bC nm\/x=Value.slice ba fb.length bc) with rfl|rfl
    ·exact .inl ⟨_,rfl⟩
    ·exact .inr (.inr ⟨(nm,Value.slice ba fb.length bc),(by simp),rfl⟩)
   have fo:uQ (P_ (rows++[(nm,Value.slice ba fb.length bc)])) w3 (.slice ua rows.length uc):=λg c e fr hg hc x hx=>(Jt.2.2.2.1 g c e fr hg hc x hx).imp id λh=>h.imp id λ⟨p,hp,e⟩=>⟨p,List.mem_append_left _ hp,e⟩;have HF3:=ah hF3;clear hF3;have HR3:=ah Jt;have zO:=ah hN3;have oN:=ah pP;have HB3:=ah OM;have HD3:=ah hD3;clear Jt hN3 pP mD hB3 OM hD3 hcell2 e2 HR2 Dn HC2 lY;unfold bC at FV;have mW:Ext w3 (w3.alloc (.cells #[bC nm,Value.slice ba fb.length bc] 77)):=(Ext.refl w3).new _;go_wp2_with (at_builtin;go_must (refine Vs (F:=P_ (rows++[(nm,Value.slice ba fb.length bc)])) rfl _ _ 40 rfl w.heap.size 77 i0 (.agg #[.string ⟨#[]⟩,.slice none 0 0]) 2 40 underlying40 hi hz0 hz1 hz2 rfl (by omega) (.slice ua rows.length uc) rows.length _ rfl (hrow.alloc (.cells #[bC nm,Value.slice ba fb.length bc] 77)) (.slice (some ⟨w3.heap.size,0,none⟩) 1 1) 1 [bC nm,Value.slice ba fb.length bc] rfl ⟨_,_,rfl,by omega,⟨by omega,λh=>by cases h⟩,λ_=>⟨_,rfl,World.news_of_block (cs:=#[bC nm,Value.slice ba fb.length bc]) (t:=77) (fr:=(0,0)) (heap_alloc_new w3 _)⟩⟩ rfl (by simp[Value.oneCell',bC]) (by unfold maxLen;omega) (by omega) (by have:=oN.out.size;simp;omega) fz fn (fo.keep λb hb=>heap_alloc_old _ _ (Ep hrow hb)) ?_);intro b6 c6 w6 hown6 hgrow6 jL pU;have gn:=ah pU;clear pU;have qP:=ah hown6;have qQ:=ah hgrow6;clear hown6 hgrow6 jL)
   go_roundw
   case rel=>
    have hkb:∀b,w.heap.size<=b->b<w3.heap.size->(Value.slice ua rows.length uc).ownBlock≠some b->w6.heap[b]?=w3.heap[b]?:=λb hb hb3 hne=>(qQ.out.block b (by simp;omega) (λe=>hne e.symm)).trans (heap_alloc_old w3 _ hb3);have htk:d.files.take (k+1)=d.files.take k++[(nm,fb)]:=by
     have:d.files[k]?=some (nm,fb):=by
      unfold D.files;rw[aZ,HM.out];simp[il.out]
     rw[dW,this];rfl
    have hlen:=HR3.out.2.1;refine⟨k+1,rows++[(nm,Value.slice ba fb.length bc)],by omega,by go_num,⟨?_,?_,?_,?_,?_⟩,?_,?_,?_⟩
    ·have:=qP.out;rw[aC,dM];simpa [X7] using this
    ·rw[htk,aC,aC,hlen];rfl
    ·intro i p q hp hq;rw[htk] at hq;by_cases hi2:i<rows.length
     ·rw[bH hi2] at hp;rw[bH (by omega)] at hq;obtain⟨h1,h2⟩:=HR3.out.2.2.1 i p q hp hq;refine⟨h1,iV.row h2 w6 λb hb=>hkb b (World.ownsRow.lt h2 b hb).1 (World.ownsRow.lt h2 b hb).2 (zB h2 HR3.out.1 (by decide) hb)⟩
     ·rw[bF (by omega)] at hp;rw[bF (by omega),<-hlen] at hq;have e0:i - rows.length=0:=by
       rcases dU (i - rows.length) with e|e
       ·exact e
       ·rw[dK (by simp;omega)] at hp;cases hp
      rw[e0] at hp hq;simp at hp hq;subst hp;subst hq;refine⟨rfl,iV.row HB3.out w6 λb hb=>hkb b (World.ownsRow.lt HB3.out b hb).1 (World.ownsRow.lt HB3.out b hb).2 (zB HB3.out HR3.out.1 (by decide) hb)⟩
    ·exact gn.out
    ·intro p hp;rcases aU.1 hp with hp|hp
     ·obtain⟨i,hi⟩:=dY hp;have hil:i<(d.files.take k).length:=by have:=(aT.1 hi).1;omega
      have ho:=(HR3.out.2.2.1 i p _ hi (au hil)).2;exact(HR3.out.2.2.2.2 p hp).keep λb hb=>hkb b (World.ownsRow.lt ho b hb).1 (World.ownsRow.lt ho b hb).2 (zB ho HR3.out.1 (by decide) hb)
     ·obtain rfl:=fP.1 hp;exact HF3.out.keep λb hb=>hkb b (World.ownsRow.lt HB3.out b hb).1 (World.ownsRow.lt HB3.out b hb).2 (zB HB3.out HR3.out.1 (by decide) hb)
    ·exact iV.row zO.out w6 λb hb=>hkb b (World.ownsRow.lt zO.out b hb).1 (World.ownsRow.lt zO.out b hb).2 (zB zO.out HR3.out.1 (by decide) hb)
    ·exact HD3.out.frame (λb hb=>(qQ.out.block b (by have:=Dt.out b hb;have:=oN.out.size;simp;omega) (λe=>by have:=(HR3.out.1.lt b e.symm).1;have:=Dt.out b hb;omega)).trans (heap_alloc_old w3 _ (by have:=Dt.out b hb;have:=oN.out.size;omega))) (by have:=qQ.out.size;simp at this;omega)
    ·exact(oN.out.trans (fA.ext mW)).grown qQ.out λb hb=>(HR3.out.1.lt b hb).1
   case measure=>simp[intOf];omega
  ·obtain rfl:k=d.list.length:=by omega
   subst hu;have hfin:YN F a d w (.returned (.slice ua rows.length uc)) wr:=by
    refine⟨.slice ua rows.length uc,rows,rfl,?_,hD,hC⟩;have:d.files.take d.list.length=d.files:=by rw[eG];unfold D.files;simp
    rw[<-this];exact hR
   have qF:=ah hfin;subst nE;clear hfin hR hD hC Ou;go_wp2;go_ret;exact qF.out
end
section
open Go.RowKit Go.Lib Go.Maps Dk Pl
def YX(l:Fl)(name:Nm)(w:World)(e:Ending)(w':World):Prop:=
 w'=w/\∃v,e=.returned (.tuple #[v,.bool (D7 l name).isSome])/\Bytes w v ((D7 l name).getD [])
theorem a8p{l:Fl}{k:Nat}{q:Nm×List UInt8}{name:Nm}(h:D7 (l.take k) name=none)(hq:l[k]?=some q)(hne:q.1≠name):D7 (l.take (k+1)) name=none:=by
 rw[dW,hq];show D7 (l.take k++[q]) name=none;rw[cX,h,Dc,if_neg hne];rfl
theorem b7C{l:Fl}{k:Nat}{q:Nm×List UInt8}{name:Nm}(h:D7 (l.take k) name=none)(hq:l[k]?=some q)(he:q.1=name):D7 l name=some q.2:=by
 have hk:k<l.length:=(aT.1 hq).1;have e:l=l.take k++(q::l.drop (k+1)):=by
  have h2:=(aT.1 hq).2;rw[<-h2,<-gY hk,List.take_append_drop]
 rw[e,cX,h,Dc,if_pos he];rfl
theorem K2(v:Value)(l:Fl)(name:Nm)(w:World)(h:Y2 w v l):
 Calls prog 31 #[v,bC name] w (YX l name w):=by
 obtain⟨a,cap,rows,rfl,hc,hc',hrl,hcell,hby⟩:=h;have HC:=ah hcell;have HB:=ah hby;clear hcell hby;unfold bC;go_enter func31,ntmps31
 go_wp2;go_loopw [6] (λi wr=>∃k:Nat,k<=l.length/\i=.int .i64 k/\D7 (l.take k) name=none/\wr=w) (λi _=>l.length - (intOf i).toNat)
 case atStart=>exact⟨0,bU _,rfl,by simp[D7],rfl⟩
 case round=>
  obtain⟨k,hk,rfl,hno,rfl⟩:=hrel;by_cases hlt:k<l.length
  ·obtain⟨q,hq⟩:∃q,l[k]?=some q:=⟨_,au hlt⟩;obtain⟨p,hp⟩:∃p,rows[k]?=some p:=⟨_,au (by omega)⟩;obtain⟨g,rfl,c0,c1⟩:=HC.out k p hp;obtain⟨he,hb⟩:=HB.out k p q hp hq;have VQ:=ah hno;have HQ:=ah hq;have HBB:=ah hb;have HE:=ah he;clear hno hq hb hp he;unfold bC at c0;by_cases hnm:p.1=name
   ·have hx:(p.1==name)=true:=dP.2 hnm;have hfin:YX l name wr (.returned (.tuple #[p.2,.bool true])) wr:=by
     have e:=b7C VQ.out HQ.out (HE.out.symm.trans hnm);exact⟨rfl,p.2,by rw[e];rfl,by rw[e];exact HBB.out⟩
    have HF:=ah hfin;clear hfin hnm;go_wp2;go_ret2
    exact HF.out
   ·have hx:(p.1==name)=false:=bn.2 hnm;have HX:=ah hnm;clear hnm;go_wp2;go_roundw
    case rel=>exact⟨k+1,by omega,by go_num,a8p VQ.out HQ.out (λe=>HX.out (HE.out.trans e)),by trivial⟩
    case measure=>simp[intOf];omega
  ·obtain rfl:k=l.length:=by omega
   have hfin:YX l name wr (.returned (.tuple #[.slice none 0 0,.bool false])) wr:=by
    rw[bG] at hno;exact⟨rfl,_,by rw[hno];rfl,by rw[hno];exact⟨none,0,rfl,aj _,⟨by omega,λ_=>rfl⟩,λh=>absurd rfl h⟩⟩
   have HF:=ah hfin;clear hfin hno;go_wp2;go_ret2
   exact HF.out
theorem SU(v:Value)(l:List Int)(x:Int)(w:World)(h:Ints w v l):
 Calls prog 51 #[v,.int .i64 x] w λe w'=>e=.returned (.bool (decide (x∈l)))/\w'=w:=by
 obtain⟨a,cap,rfl,hc,hc',hcell⟩:=h;have hat:∀k,(hk:k<l.length)->∃b,a=some b/\w.cell? (b.add k)=some (.int .i64 l[k]):=by
  intro k hk;obtain⟨b,rfl,hb⟩:=hcell (λe=>by simp at e;subst e;simp at hk);exact⟨b,rfl,hb k _ (by simp[hk])⟩
 have HA:=ah hat;clear hat hcell;go_enter func51,ntmps51
 go_wp2;go_loopw [5] (λi wr=>∃k:Nat,k<=l.length/\i=.int .i64 k/\x∉l.take k/\wr=w) (λi _=>l.length - (intOf i).toNat)
 case atStart=>exact⟨0,bU _,rfl,by simp,rfl⟩
 case round=>
  obtain⟨k,hk,rfl,hno,rfl⟩:=hrel;by_cases hlt:k<l.length
  ·obtain⟨b,rfl,c0⟩:=HA.out k hlt;have VQ:=ah hno;clear hno;by_cases hx:l[k]=x
   ·have hx':(l[k]==x)=true:=dP.2 hx;have hd:decide (x∈l)=true:=aG (hx▸fE hlt);have HD:=ah hd;clear hd;clear hx;go_wp2;go_ret;exact⟨by rw[HD.out];rfl,rfl⟩
   ·have hx':(l[k]==x)=false:=bn.2 hx;have HX:=ah hx;clear hx;go_wp2;go_roundw
    case rel=>
     refine⟨k+1,by omega,by go_num,?_,by trivial⟩;rw[take_snoc l k hlt,aU];rintro(h|h)
     ·exact VQ.out h
     ·simp at h;exact HX.out h.symm
    case measure=>simp[intOf];omega
  ·obtain rfl:k=l.length:=by omega
   rw[bG] at hno;have hd:decide (x∈l)=false:=aI hno;have HD:=ah hd;clear hd hno;go_wp2;go_ret;exact⟨by rw[HD.out];rfl,rfl⟩
end
section
open Go.RowKit Go.Lib Go.Maps Dk Pl
def sfx(id:Nat):Nat->Nm
 | 0=>[]
 | k+1=>digit (id/10^k)::sfx id k
theorem UP(kind:Nm)(id:Nat):F6 kind id=kind++sfx id 6:=by
 simp[F6,sfx]
theorem ze(id:Nat):∀k,(sfx id k).length=k:=by
 intro k
 induction k with
 | zero=>rfl
 | succ k ih=>simp[sfx,ih]
theorem TP(a b:Nm):(⟨a.toArray⟩:ByteArray)++(⟨b.toArray⟩:ByteArray)=⟨(a++b).toArray⟩:=by
 apply ByteArray.ext;simp
theorem b8i(n:Nat):(digit n).toNat=48+n%10:=by
 unfold digit;rw[UInt8.toNat_ofNat'];omega
theorem b5f(n:Nat):Value.int .u8 (((48+n%10:Nat)):Int)=dX (digit n):=by
 unfold dX;rw[b8i]
theorem cN(kind:Nm)(id:Nat)(w:World)(hk:kind.length<=1000)(hid:id<=999999):
 Calls prog 20 #[bC kind,.int .i64 id] w λe w'=>e=.returned (bC (F6 kind id))/\Ext w w':=by
 unfold bC;go_enter func20,ntmps20
 go_wp2;go_loopw [1,5,6] (λx s i wr=>∃k:Nat,k<=6/\i=.int .i64 k/\x=.int .i64 ((id/10^k:Nat))/\s=.string ⟨(sfx id k).toArray⟩/\Ext w wr) (λ_ _ i _=>6 - (intOf i).toNat)
 case atStart=>exact⟨0,by omega,rfl,by simp,rfl,Ext.refl w⟩
 case round=>
  obtain⟨k,hk6,rfl,rfl,rfl,hE⟩:=hrel;by_cases hlt:k<6
  ·obtain⟨y,hy⟩:∃y,id/10^k=y:=⟨_,rfl⟩;have hyl:y<=999999:=by rw[<-hy];exact ay (Nat.div_le_self _ _) hid
   have hy2:id/10^(k+1)=y/10:=by rw[<-hy,og,Nat.div_div_eq_div_mul]
   have hm:((y:Int).tmod 10)=((y%10:Nat):Int):=by
    have:=Int.ofNat_tmod y 10;simpa using this.symm
   have hd:((y:Int).tdiv 10)=((y/10:Nat):Int):=by
    have:=Int.ofNat_tdiv y 10;simpa using this.symm
   rw[hy];have HY:=ah hy;have HY2:=ah hy2;have HE:=ah hE;clear hy hy2 hE;have hnews:Bytes (wr.alloc (.cells #[.int .u8 (48+(y:Int)%10)] 5)) (.slice (some ⟨wr.heap.size,0,none⟩) 1 1) [digit y]:=by
    have e:Value.int .u8 (48+(y:Int)%10)=dX (digit y):=by rw[<-b5f];simp
    rw[e];exact⟨_,_,rfl,by simp,⟨by omega,λh=>by cases h⟩,λ_=>⟨_,rfl,World.news_of_block (cs:=#[dX (digit y)]) (t:=5) (fr:=(0,0)) (heap_alloc_new wr _)⟩⟩
   have hq:=U0 hnews;have HQ:=ah hnews;clear hnews;have hsl:(sfx id k).length<=6:=by rw[ze];omega
   go_wp2;go_roundw
   case rel=>
    refine⟨k+1,by omega,by go_num,?_,?_,HE.out.new _⟩
    ·rw[HY2.out];simp
    ·show Value.string (⟨([digit y]:Nm).toArray⟩++⟨(sfx id k).toArray⟩)=_;rw[TP,show sfx id (k+1)=digit (id/10^k)::sfx id k from rfl,HY.out];rfl
   case measure=>simp[intOf];omega
  ·obtain rfl:k=6:=by omega
   have HE:=ah hE;clear hE;have hsl:(sfx id 6).length=6:=ze _ _;go_wp2;go_ret;refine⟨?_,HE.out⟩;rw[UP,<-TP];rfl
end
section
open Go.RowKit Go.Lib Go.Maps Dk Pl
end
section
open Go.RowKit Go.Lib Go.Maps Dk Pl
theorem Vw{u:Nat}(h:u<10):Lib.decDigits u=[digit u]:=by
 rw[Lib.decDigits,dif_pos h];unfold digit;rw[Nat.mod_eq_of_lt h]
theorem Z2{u:Nat}(h:¬u<10):Lib.decDigits u=Lib.decDigits (u/10)++[digit u]:=by
 rw[Lib.decDigits,dif_neg h];rfl
theorem EV(u:Nat):∀k,sfx u (k+1)=sfx (u/10) k++[digit u]:=by
 intro k
 induction k with
 | zero=>simp[sfx]
 | succ k ih=>
  have e1:sfx u (k+1+1)=digit (u/10^(k+1))::sfx u (k+1):=rfl;have e2:sfx (u/10) (k+1)=digit (u/10/10^k)::sfx (u/10) k:=rfl;rw[e1,e2,ih,Nat.div_div_eq_div_mul,og,oh];rfl
theorem c0p:∀m,sfx 0 m=Lib.repeatL [48] m:=by
 intro m
 induction m with
 | zero=>rfl
 | succ m ih=>
  have e1:sfx 0 (m+1)=digit (0/10^m)::sfx 0 m:=rfl;rw[e1,ih,Nat.zero_div];rfl
theorem U':∀(k u:Nat),u<10^(k+1)->∃j,(Lib.decDigits u).length+j=k+1/\Lib.repeatL [48] j++Lib.decDigits u=sfx u (k+1):=by
 intro k
 induction k with
 | zero=>
  intro u h;have h':u<10:=by simpa using h
  exact⟨0,by rw[Vw h'];rfl,by rw[Vw h'];simp[sfx,Lib.repeatL]⟩
 | succ k ih=>
  intro u h;by_cases h':u<10
  ·refine⟨k+1,by rw[Vw h'];simp;omega,?_⟩;rw[Vw h',EV u (k+1),show u/10=0 by omega,c0p]
  ·obtain⟨j,h1,h2⟩:=ih (u/10) (by rw[og] at h;omega);refine⟨j,by rw[Z2 h'];simp;omega,?_⟩;rw[Z2 h',EV u (k+1),<-h2,fH]
def nZ(w:World):Prop:=Lib.TabIs prog w "internal/strconv.uint64pow10" .u64 Lib.pow10Tab
theorem c0q(w:World)(k:Nat)(os:Array Obj):Ext w (Go.Sort.grow (w.drewN k) os):=by
 have h:=Ext.drewN w k;refine⟨h.os,h.tape,h.output,?_,λb hb=>?_⟩
 ·show w.heap.size<=((w.drewN k).heap++os).size;have:=h.size;simp only[Array.size_append];omega
 ·show((w.drewN k).heap++os)[b]?=_;rw[jq (by have:=h.size;omega)];exact h.block b hb
theorem bE(kind:Nm)(id:Nat)(w:World)(hk:kind.length<=1000)(hid:id<=999999)(hl:nZ w):
 Calls prog 56 #[bC kind,.int .i64 id] w λe w'=>e=.returned (bC (F6 kind id))/\Ext w w':=by
 obtain⟨j,hj,FH⟩:=U' 5 id (by omega);have hit:Lib.itoa (id:Int)=Lib.decDigits id:=by unfold Lib.itoa;rw[if_neg (by omega)];rfl
 have hi:=Tryz.strconv_Itoa (id:Int) (by omega) (by omega) w hl;rw[hit] at hi;obtain⟨ds,hds⟩:∃ds,Lib.decDigits id=ds:=⟨_,rfl⟩;rw[hds] at hi hj FH;have HI:=ah hi;have HP:=ah FH;clear hi FH hit hds hl;unfold bC;go_enter func56,ntmps56
 go_wp2_with fail
 refine HI.out.mono ?_;rintro e w1 ⟨rfl,kd,os,rfl⟩;have hE1:=c0q w kd os;have hr:=Tryz.strings_Repeat ⟨#[48]⟩ j (Go.Sort.grow (w.drewN kd) os) (by omega) (by show 1*j<=_;omega);have hsub:(6:Int) - (ds.length:Int)=(j:Int):=by omega
 have HE:=ah hE1;have HR:=ah hr;clear hE1 hr;have hdl:ds.length<=6:=by omega
 have hrl:(Lib.repeatL [48] j).length=j:=by rw[Lib.repeatL_length];simp
 obtain⟨zs,hzs⟩:∃zs,Lib.repeatL [48] j=zs:=⟨_,rfl⟩;rw[hzs] at hrl;have hjl:zs.length<=6:=by omega
 have HZ:=ah hzs;clear hzs hrl;go_wp2_with fail
 refine HR.out.mono ?_;rintro e w2 ⟨rfl,hE2⟩;have jX:=Ext.trans HE.out hE2;have qG:=ah jX;clear jX hE2;rw[show Lib.repeatL (⟨#[48]⟩:ByteArray).data.toList j=zs from HZ.out];go_wp2;go_ret;refine⟨?_,qG.out⟩;rw[UP,<-HP.out,HZ.out,<-fH,<-TP,<-TP];rfl
end
end Go.Proofs.YtgpbhjjajpbeeaaGreatDoor
namespace Go.Mw
section
open Go.Conc Go.RowKit Go.Conc.Lib Go.ConcR.Gen Go.ConcN.Gen
open Go.ConcR (KK wgBlock WgAt stA smA rd wr mk DC0)
open Go.ConcN (WgLive)
open Go.ConcM (goes_le)
open Mc
variable[Go.ConcR.Payload]
section
variable{Z:Pz}{x:Option Nat}
omit[Go.ConcR.Payload] in
theorem AW{w:World}{es:Array Event}(h:∀e∈es,False):D0 Z x x w w es:=⟨aj _,rfl,rfl,rfl,λ_ _ _=>rfl,.inl rfl,λe he=>(h e he).elim⟩
omit[Go.ConcR.Payload] in
theorem c35{w:World}{m:Mark}(h:Bi.fU m\/∃a,(m=.read a\/m=.write a)/\a.block=Z.Wg):D0 Z x x w w #[⟨.mark m,false,true⟩]:=
 ⟨aj _,rfl,rfl,rfl,λ_ _ _=>rfl,.inl rfl,λe he=>by
  rw[sF] at he;subst he;exact h⟩
omit[Go.ConcR.Payload] in
theorem ye{w w':World}{es:Array Event}(h:DC0 w w' es):D0 Z x x w w' es:=by
 obtain⟨rfl,rfl⟩:=h;exact AW (by simp)
def Kn(Z:Pz)(x:Option Nat)(w0 w:World):Prop:=R0 Z x w0 w/\WgLive Z.ty Z.Wg w
variable{w0 w w₁:World}
theorem Kn.rely(h:Kn Z x w0 w)(r:R0 Z x w w₁):Kn Z x w0 w₁:=⟨R0.trans Z h.1 r,r.live h.2⟩
theorem Kn.set(hZ:jY Z)(hx:x≠some Z.Wg)(h:Kn Z x w0 w)(a:Addr)(ha:a.block=Z.Wg)(v:Value)(hl:WgLive Z.ty Z.Wg (w.setCell a v)):Kn Z x w0 (w.setCell a v):=by
 have ho:∀b,b≠Z.Wg->(w.setCell a v).heap[b]?=w.heap[b]?:=λb hb=>Below.heap_setCell _ _ _ _ (by rw[ha];exact hb);refine⟨⟨?_,λb hb=>(ho b (hZ.iP b hb).2.1).trans (h.1.iP b hb),λb hb=>(ho b λe=>hx (e▸hb)).trans (h.1.cur b hb),λ_=>hl,λb hb=>(ho b (hZ.sh b hb).2.1).trans (h.1.xP b hb)⟩,hl⟩;rw[(aside_setCell w a v).size];exact h.1.size
end
section
variable{P:Program}{Z:Pz}{x:Option Nat}
theorem Z7{Stop:Option Nat->Goroutine->World->Prop}{n:Nat}{g:Goroutine}{w:World}(h:Goes Z.P true (R0 Z x) DC0 (Stop x) n g w):∃T,W0 Z Stop T x g w:=
 Wk.pI (γ:=Option Nat) (P:=Z.P) (main:=true) (R:=R0 Z) (D:=D0 Z) (Stop:=Stop) x (λ_ _ h=>h) (λ_ _ _ h=>ye h) (λ_ _ h=>h) h
theorem Tn{Stop:Option Nat->Goroutine->World->Prop}{n:Nat}{g:Goroutine}{w:World}(h:Goes Z.P true (R0 Z x) DC0 (λg w=>∃T,W0 Z Stop T x g w) n g w):∃T,W0 Z Stop T x g w:=by
 obtain⟨T,hT⟩:=Z7 (Stop:=λy g w=>∃T,W0 Z Stop T y g w) h;exact Wk.bind (R0.refl Z) (λ_ _ _ _ h1 h2=>R0.trans Z h1 h2) hT λy g w hs=>hs
theorem AT{Stop:Option Nat->Goroutine->World->Prop}{g g':Goroutine}{w:World}{m:Mark}(hrun:g.status=.running)(hm:∃a,(m=.read a\/m=.write a)/\a.block=Z.Wg)(h:∀w,stepG Z.P true g w=.go g' w #[⟨.mark m,false,true⟩])(h':∀w₁,R0 Z x w w₁->∃T,W0 Z Stop T x g' w₁):∃T,W0 Z Stop T x g w:=
 Wk.step hrun λw₁ r=>let ⟨T,hT⟩:=h' w₁ r;⟨g',w₁,_,x,T,h w₁,c35 (.inr hm),hT⟩
end
section
variable{Z:Pz}{L:WgLink}{x:Option Nat}{j:Nat}{Next:Option Nat->Goroutine->World->Prop}{b₀:Frame}{a₀:Act}{ops₀:Array Oper}{i₀:Nat}{rest₀:List Nat}{k₀:List Item}{cs:List Frame}
theorem zD(hZ:jY Z)(H:WgLib Z.P L)(hty:Z.ty=L.tWg)(hx:x≠some Z.Wg){w0:World}
 (hT:∀w,Kn Z x w0 w->∃T,W0 Z (AtGoS Z j Next) T x (G (b₀.at (a₀.put ((ops₀[i₀]?).bind (·.dst)) (.tuple #[])) (.inRegion ops₀ rest₀::k₀)) cs) w)(w:World)(hF:Kn Z x w0 w):
 ∃T,W0 Z (AtKdS Z j Next) T x (G ((base L.add).at ⟨#[.pointer (some ⟨Z.Wg,0,none⟩),.int .i64 1]++Array.replicate 115 undef,[]⟩ [.code (body_add L)]) (b₀.at a₀ (.inRegion ops₀ (i₀::rest₀)::k₀)::cs)) w:=by
 lib_facts;refine Z7 (n:=12) ?_;simp only[body_add,addFn,aP];walk_nrm;iterate 12 (first|w_go Kn.rely|u_cnd true Kn.rely hF|u_cnd false Kn.rely hF)
 refine Goes.stop (λw₁ h₁=>?_);replace hF:=Kn.rely hF h₁;clear h₁;refine⟨rfl,_,stepG_mark0 .disable (by simp) rfl rfl (by k_ne) rfl H.f_disable (x_disable_n L) (x_disable_b L) (x_disable_x L) (x_disable_f L),Z7 (n:=40) ?_⟩;walk_nrm;iterate 2 (first|w_go Kn.rely|u_cnd true Kn.rely hF|u_cnd false Kn.rely hF)
 u_defer Kn.rely hF
 iterate 8 (first|w_go Kn.rely|u_cnd true Kn.rely hF|u_cnd false Kn.rely hF)
 u_bub Kn.rely hF
 iterate 11 (first|w_go Kn.rely|u_cnd true Kn.rely hF|u_cnd false Kn.rely hF)
 u_call H.f_uAdd (nm_uAdd L) uAddFn Kn.rely hF
 iterate 10 (first|w_go Kn.rely|u_cnd true Kn.rely hF|u_cnd false Kn.rely hF)
 refine Goes.stop (λw₂ h₂=>?_);replace hF:=Kn.rely hF h₂;clear h₂;refine⟨rfl,λv hv hw=>?_⟩;have hW:∀st':Int,WgLive Z.ty Z.Wg (w₂.setCell (stA Z.Wg) (.int .u64 st')):=λst'=>⟨_,_,hw.setSt st'⟩;rcases dU v with rfl|hvp
 ·have hw0:WgAt Z.ty Z.Wg w₂ 0 0:=by simpa using hw
  have z:(((0:Nat):Int)+1)*KK=KK:=by simp
  rw[z];have e0:IntKind.u64.wrap (0+4294967296)=KK:=by decide
  refine⟨_,(stepG_add_atomic rfl rfl (by k_ne) rfl H.f_addU64 (x_addU64_n L) (x_addU64_b L) (x_addU64_x L) .u64 (x_addU64_f L) rfl rfl hw0.cellSt (hw0.thaw 0)).trans (by rw[e0];rfl),Tn (n:=110) ?_⟩;replace hF:=Kn.set hZ hx hF (stA Z.Wg) rfl (.int .u64 KK) (hW _);clear hw hw0 hW;simp only[KK] at hF⊢;walk_nrm;iterate 3 (first|w_go Kn.rely|u_cnd true Kn.rely hF|u_cnd false Kn.rely hF)
  u_leave1 H.f_uAdd Kn.rely hF
  iterate 48 (first|w_go Kn.rely|u_cnd true Kn.rely hF|u_cnd false Kn.rely hF)
  u_in Kn.rely hF
  refine goes_oper_k rfl rfl (by k_ne) (λKx hKx=>?_);have hc1:=(WgLive.cell1 hF.2).choose_spec;have hcv:=run_convert_to_unsafe (P:=Z.P) H.underlying_tPU32 H.underlying_tUP H.room_tU32 hc1;have hce:=λes=>events_convert_to_unsafe (P:=Z.P) H.underlying_tPU32 H.underlying_tUP H.room_tU32 hc1 es;go_simp
  refine hKx _ _ ⟨?_,?_⟩
  ·u_none
   intro ex hex;have hmx:=mem_listed hex;simp[go_sem,hce] at hmx
  clear hKx Kx hcv hce hc1;refine Goes.stop (λw₉ h₉=>?_);replace hF:=Kn.rely hF h₉;clear h₉;refine AT rfl ⟨_,.inl rfl,rfl⟩ (λw=>stepG_markAt (ad:=⟨Z.Wg,1,none⟩) .read (by simp) rfl rfl (by k_ne) rfl H.f_raceRead (x_raceRead_n L) (x_raceRead_b L) (x_raceRead_x L) (x_raceRead_f L) (by simp[Act.eval]<;>rfl)) (λw₈ h₈=>Z7 (n:=60) ?_);replace hF:=Kn.rely hF h₈;clear h₈;walk_nrm;iterate 39 (first|w_go Kn.rely|u_cnd true Kn.rely hF|u_cnd false Kn.rely hF)
  refine Goes.stop (λw₃ h₃=>?_);replace hF:=Kn.rely hF h₃;clear h₃;refine⟨rfl,_,stepG_unwind_entry (v:=.tuple #[]) (evs:=#[mk .enable]) rfl H.f_enable (x_enable_n L) (x_enable_b L) (x_enable_x L) (x_enable_f L) (by simp[Extern.Race.none_]) (by simp[mk]) (by simp[mk]),Tn (n:=2) ?_⟩;u_leave0 H.f_add (Kn.rely) hF
  exact Goes.stop λw₄ h₄=>hT _ (Kn.rely hF h₄)
 ·obtain⟨V,hV⟩:∃V:Int,V=(v:Int)+1:=⟨_,rfl⟩;obtain⟨S,hS⟩:∃S:Int,S=V*KK:=⟨_,rfl⟩;have eS:IntKind.u64.wrap ((v:Int)*KK+4294967296)=S:=by rw[IntKind.wrap_u64,hS,hV];simp only[KK];omega
  rw[<-hV,<-hS];have a1:S/4294967296=V:=by rw[hS];simp only[KK];omega
  have b1:bits .and .u64 S 2147483648=0:=by rw[hS,hV];have:=Go.ConcN.st_flag (v+1) 0 (by omega) (by omega);simpa [KK] using this
  have b2:bits .and .u64 S 2147483647=0:=by rw[hS,hV];have:=Go.ConcN.st_waiters (v+1) 0 (by omega) (by omega);simpa [KK] using this
  have c1:IntKind.i32.wrap V=V:=by rw[IntKind.wrap_i32];omega
  have hV1:1<V:=by omega
  have q1:(V==1)=false:=by simp;omega
  have q2:decide (V=1)=false:=aI (by omega);have q3:decide (V<0)=false:=aI (by omega);have q4:decide (0<V)=true:=aG (by omega);have q5:(V==0)=false:=by simp;omega
  have q6:decide (V=0)=false:=aI (by omega);refine⟨_,(stepG_add_atomic rfl rfl (by k_ne) rfl H.f_addU64 (x_addU64_n L) (x_addU64_b L) (x_addU64_x L) .u64 (x_addU64_f L) rfl rfl hw.cellSt (hw.thaw 0)).trans (by rw[eS];rfl),Z7 (n:=110) ?_⟩;replace hF:=Kn.set hZ hx hF (stA Z.Wg) rfl (.int .u64 S) (hW _);clear hw hS hV eS hW;walk_nrm;iterate 3 (first|w_go Kn.rely|u_cnd true Kn.rely hF|u_cnd false Kn.rely hF)
  u_leave1 H.f_uAdd Kn.rely hF
  iterate 83 (first|w_go Kn.rely|u_cnd true Kn.rely hF|u_cnd false Kn.rely hF)
  refine Goes.stop (λw₃ h₃=>?_);replace hF:=Kn.rely hF h₃;clear h₃;refine⟨rfl,_,stepG_unwind_entry (v:=.tuple #[]) (evs:=#[mk .enable]) rfl H.f_enable (x_enable_n L) (x_enable_b L) (x_enable_x L) (x_enable_f L) (by simp[Extern.Race.none_]) (by simp[mk]) (by simp[mk]),Tn (n:=2) ?_⟩;u_leave0 H.f_add (Kn.rely) hF
  exact Goes.stop λw₄ h₄=>hT _ (Kn.rely hF h₄)
end
end
section
open Go.Conc Go.RowKit Go.Conc.Lib Go.ConcR.Gen Go.ConcN.Gen
open Go.ConcR (KK wgBlock WgAt stA smA rd wr mk DC0)
open Go.ConcN (WgLive)
open Zn (tp)
open Mc
variable[Go.ConcR.Payload]
def YR(w w₁:World):Prop:=∃τ p,w₁=tp w τ p
variable{Z:Pz}{L:WgLink}{x:Option Nat}{b₀:Frame}{a₀:Act}{ops₀:Array Oper}{i₀:Nat}{rest₀:List Nat}{k₀:List Item}{cs:List Frame}
def PX(P:Program)(g' g:Goroutine)(w:World):Prop:=Goes P true YR DC0 (λg₁ _=>g₁=g') 40 g w
def PW(Z:Pz)(L:WgLink)(w0:World)(c:Frame)(cs:List Frame)(g:Goroutine)(w:World):Prop:=
 ∃T:Array Value,g=G ((base L.wait).at ⟨T,[]⟩ [.code (L7 L),.inLoop (L7 L),.inBlock 0]) (c::cs)/\T.size=84/\T[0]?=some (.pointer (some ⟨Z.Wg,0,none⟩))/\Kn Z none w0 w
theorem Kn.bW{w0 w w₁:World}(h:Kn Z none w0 w)(r:R0 Z x w w₁):Kn Z none w0 w₁:=h.rely ⟨r.size,r.iP,λb hb=>(by cases hb),r.live,r.xP⟩
theorem Ez{w w₁:World}(_:True)(_:YR w w₁):True:=trivial
theorem b50(hZ:jY Z)(H:WgLib Z.P L)(hty:Z.ty=L.tWg){w0:World}(g:Goroutine)(w:World)(h:PW Z L w0 (b₀.at a₀ (.inRegion ops₀ (i₀::rest₀)::k₀)) cs g w):
 ∃T,W0 Z (AtW1 Z (PX Z.P (G (b₀.at (a₀.put ((ops₀[i₀]?).bind (·.dst)) (.tuple #[])) (.inRegion ops₀ rest₀::k₀)) cs)) (PW Z L w0 (b₀.at a₀ (.inRegion ops₀ (i₀::rest₀)::k₀)) cs)) T x g w:=by
 lib_facts;obtain⟨T,rfl,hT84,t0,wY⟩:=h;obtain⟨v0,v1,v2,v3,v4,v5,v6,v7,v8,v9,v10,v11,v12,v13,v14,v15,v16,v17,v18,v19,v20,v21,v22,v23,v24,v25,v26,v27,v28,v29,v30,v31,v32,v33,v34,v35,v36,v37,v38,v39,v40,v41,v42,v43,v44,v45,v46,v47,v48,v49,v50,v51,v52,v53,v54,v55,v56,v57,v58,v59,v60,v61,v62,v63,v64,v65,v66,v67,v68,v69,v70,v71,v72,v73,v74,v75,v76,v77,v78,v79,v80,v81,v82,v83,rfl⟩:=array84 T hT84;clear hT84;simp only[iU,VF,bJ] at t0;subst t0;have hF:Kn Z none w w:=⟨R0.refl Z none w,wY.2⟩;have back:∀w',Kn Z none w w'->Kn Z none w0 w':=λw' h=>wY.rely h.1;clear wY;refine Z7 (n:=30) ?_;simp only[L7,body_wait,waitFn,aP];iterate 6 (first|w_go Kn.bW|u_cnd true Kn.bW hF|u_cnd false Kn.bW hF)
 u_call H.f_uLoad (nm_uLoad L) uLoadFn Kn.bW hF
 iterate 9 (first|w_go Kn.bW|u_cnd true Kn.bW hF|u_cnd false Kn.bW hF)
 refine Goes.stop (λw₁ h₁=>?_);replace hF:=Kn.bW hF h₁;clear h₁;refine⟨rfl,λv hv hw=>?_⟩;rcases dU v with rfl|hvp
 ·replace hw:WgAt Z.ty Z.Wg w₁ 0 0:=by simpa using hw
  refine⟨_,stepG_load_atomic (v:=0) rfl rfl (by k_ne) rfl H.f_loadU64 (x_loadU64_n L) (x_loadU64_b L) (x_loadU64_x L) .u64 (x_loadU64_f L) rfl hw.cellSt,λ_=>Z7 (n:=50) ?_,λh=>absurd rfl h⟩;clear hw;walk_nrm;iterate 3 (first|w_go Kn.bW|u_cnd true Kn.bW hF|u_cnd false Kn.bW hF)
  u_leave1 H.f_uLoad Kn.bW hF
  iterate 27 (first|w_go Kn.bW|u_cnd true Kn.bW hF|u_cnd false Kn.bW hF)
  refine Goes.stop (λw₅ h₅=>?_);replace hF:=Kn.bW hF h₅;clear h₅;refine⟨rfl,_,stepG_mark0 .enable (by simp) rfl rfl (by k_ne) rfl H.f_enable (x_enable_n L) (x_enable_b L) (x_enable_x L) (x_enable_f L),Z7 (n:=12) ?_⟩;walk_nrm;iterate 3 (first|w_go Kn.bW|u_cnd true Kn.bW hF|u_cnd false Kn.bW hF)
  u_in Kn.bW hF
  refine goes_oper_k rfl rfl (by k_ne) (λKx hKx=>?_);have hc1:=(WgLive.cell0 hF.2).choose_spec;have hcv:=run_convert_to_unsafe (P:=Z.P) H.underlying_tWgP H.underlying_tUP H.room_tWg hc1;have hce:=λes=>events_convert_to_unsafe (P:=Z.P) H.underlying_tWgP H.underlying_tUP H.room_tWg hc1 es;go_simp
  refine hKx _ _ ⟨?_,?_⟩
  ·u_none
   intro ex hex;have hmx:=mem_listed hex;simp[go_sem,hce] at hmx
  clear hKx Kx hcv hce hc1;refine Goes.stop (λw₆ h₆=>?_);replace hF:=Kn.bW hF h₆;clear h₆;refine⟨rfl,_,stepG_markAt .acquire (by simp) rfl rfl (by k_ne) rfl H.f_acquire (x_acquire_n L) (x_acquire_b L) (x_acquire_x L) (x_acquire_f L) (by simp[Act.eval,stA]),rfl,?_⟩;unfold PX;clear hF;have hF:True:=trivial;walk_nrm;iterate 19 (first|w_go Ez|u_cnd true Ez hF|u_cnd false Ez hF)
  u_leave0 H.f_wait Ez hF
  exact Goes.stop λ_ _=>rfl
 ·obtain⟨S,hS⟩:∃S:Int,(v:Int)*KK=S:=⟨_,rfl⟩;have a1:S/4294967296=(v:Int):=by rw[<-hS];simp only[KK];omega
  have b1:bits .and .u64 S 2147483648=0:=by rw[<-hS];have:=Go.ConcN.st_flag v 0 (by omega) (by omega);simpa [KK] using this
  have b2:bits .and .u64 S 2147483647=0:=by rw[<-hS];have:=Go.ConcN.st_waiters v 0 (by omega) (by omega);simpa [KK] using this
  have c1:IntKind.i32.wrap (v:Int)=(v:Int):=by rw[IntKind.wrap_i32];omega
  have w1:IntKind.u64.wrap (S+1)=S+1:=by rw[IntKind.wrap_u64,<-hS];simp only[KK];omega
  have q3:decide ((v:Int)<0)=false:=aI (by omega);have q4:decide (0<(v:Int))=true:=aG (by omega);have q5:((v:Int)==0)=false:=by simp;omega
  have q6:decide ((v:Int)=0)=false:=aI (by omega);rw[hS] at hw;refine⟨_,stepG_load_atomic (v:=S) rfl rfl (by k_ne) rfl H.f_loadU64 (x_loadU64_n L) (x_loadU64_b L) (x_loadU64_x L) .u64 (x_loadU64_f L) rfl hw.cellSt,λh0=>absurd h0 (by omega),λ_=>Z7 (n:=60) ?_⟩;clear hw;walk_nrm;iterate 3 (first|w_go Kn.bW|u_cnd true Kn.bW hF|u_cnd false Kn.bW hF)
  u_leave1 H.f_uLoad Kn.bW hF
  iterate 32 (first|w_go Kn.bW|u_cnd true Kn.bW hF|u_cnd false Kn.bW hF)
  u_call H.f_uCas (nm_uCas L) uCasFn Kn.bW hF
  iterate 11 (first|w_go Kn.bW|u_cnd true Kn.bW hF|u_cnd false Kn.bW hF)
  refine Goes.stop (λw₂ h₂=>?_);replace hF:=Kn.bW hF h₂;clear h₂;refine⟨rfl,λv' hv' hw=>⟨λe=>?_,λe=>?_⟩⟩
  ·subst e;rw[hS] at hw⊢;refine⟨_,(stepG_cas_hit (v:=S) (n:=S+1) rfl rfl (by k_ne) rfl H.f_casU64 (x_casU64_n L) (x_casU64_b L) (x_casU64_x L) .u64 (x_casU64_f L) rfl rfl rfl hw.cellSt (hw.thaw 0)).trans (by rfl),Tn (n:=70) ?_⟩;replace hF:=Kn.set hZ (by simp) hF (stA Z.Wg) rfl (.int .u64 (S+1)) ⟨_,_,hw.setSt _⟩;clear hw;walk_nrm;iterate 3 (first|w_go Kn.bW|u_cnd true Kn.bW hF|u_cnd false Kn.bW hF)
   u_leave1 H.f_uCas Kn.bW hF
   iterate 15 (first|w_go Kn.bW|u_cnd true Kn.bW hF|u_cnd false Kn.bW hF)
   u_in Kn.bW hF
   refine goes_oper_k rfl rfl (by k_ne) (λKx hKx=>?_);have hc1:=(WgLive.cell1 hF.2).choose_spec;have hcv:=run_convert_to_unsafe (P:=Z.P) H.underlying_tPU32 H.underlying_tUP H.room_tU32 hc1;have hce:=λes=>events_convert_to_unsafe (P:=Z.P) H.underlying_tPU32 H.underlying_tUP H.room_tU32 hc1 es;go_simp
   refine hKx _ _ ⟨?_,?_⟩
   ·u_none
    intro ex hex;have hmx:=mem_listed hex;simp[go_sem,hce] at hmx
   clear hKx Kx hcv hce hc1;refine Goes.stop (λw₉ h₉=>?_);replace hF:=Kn.bW hF h₉;clear h₉;refine AT rfl ⟨_,.inr rfl,rfl⟩ (λw=>stepG_markAt (ad:=⟨Z.Wg,1,none⟩) .write (by simp) rfl rfl (by k_ne) rfl H.f_raceWrite (x_raceWrite_n L) (x_raceWrite_b L) (x_raceWrite_x L) (x_raceWrite_f L) (by simp[Act.eval]<;>rfl)) (λw₈ h₈=>Z7 (n:=60) ?_);replace hF:=Kn.bW hF h₈;clear h₈;walk_nrm;iterate 23 (first|w_go Kn.bW|u_cnd true Kn.bW hF|u_cnd false Kn.bW hF)
   refine Goes.stop (λw₃ h₃=>?_);replace hF:=Kn.bW hF h₃;clear h₃;refine⟨rfl,rfl,λ⟨st,hw⟩=>stepG_semacquire_wait rfl rfl rfl H.f_semacquire (x_semacquire_n L) (x_semacquire_b L) (x_semacquire_x L) (x_semacquire_f L) (by simp[Act.eval,smA]) hw.cellSm,λhf=>?_⟩;refine⟨_,(stepG_semacquire (n:=1) rfl rfl (by k_ne) rfl H.f_semacquire (x_semacquire_n L) (x_semacquire_b L) (x_semacquire_x L) (x_semacquire_f L) (by simp[Act.eval,smA]) hf.cellSm (by k_ne) (hf.thaw 1)).trans (by rfl),Z7 (n:=30) ?_⟩;replace hF:=Kn.set hZ (by simp) hF (smA Z.Wg) rfl (.int .u32 0) ⟨_,_,hf.setSm 0⟩;clear hf;walk_nrm;iterate 6 (first|w_go Kn.bW|u_cnd true Kn.bW hF|u_cnd false Kn.bW hF)
   u_call H.f_uLoad (nm_uLoad L) uLoadFn Kn.bW hF
   iterate 9 (first|w_go Kn.bW|u_cnd true Kn.bW hF|u_cnd false Kn.bW hF)
   refine Goes.stop (λw₄ h₄=>?_);replace hF:=Kn.bW hF h₄;clear h₄;refine⟨rfl,λhw=>⟨_,stepG_load_atomic (v:=0) rfl rfl (by k_ne) rfl H.f_loadU64 (x_loadU64_n L) (x_loadU64_b L) (x_loadU64_x L) .u64 (x_loadU64_f L) rfl hw.cellSt,Z7 (n:=30) ?_⟩⟩;walk_nrm;iterate 3 (first|w_go Kn.bW|u_cnd true Kn.bW hF|u_cnd false Kn.bW hF)
   u_leave1 H.f_uLoad Kn.bW hF
   iterate 7 (first|w_go Kn.bW|u_cnd true Kn.bW hF|u_cnd false Kn.bW hF)
   refine Goes.stop (λw₅ h₅=>?_);replace hF:=Kn.bW hF h₅;clear h₅;refine⟨rfl,_,stepG_mark0 .enable (by simp) rfl rfl (by k_ne) rfl H.f_enable (x_enable_n L) (x_enable_b L) (x_enable_x L) (x_enable_f L),Z7 (n:=12) ?_⟩;walk_nrm;iterate 3 (first|w_go Kn.bW|u_cnd true Kn.bW hF|u_cnd false Kn.bW hF)
   u_in Kn.bW hF
   refine goes_oper_k rfl rfl (by k_ne) (λKx hKx=>?_);have hc1:=(WgLive.cell0 hF.2).choose_spec;have hcv:=run_convert_to_unsafe (P:=Z.P) H.underlying_tWgP H.underlying_tUP H.room_tWg hc1;have hce:=λes=>events_convert_to_unsafe (P:=Z.P) H.underlying_tWgP H.underlying_tUP H.room_tWg hc1 es;go_simp
   refine hKx _ _ ⟨?_,?_⟩
   ·u_none
    intro ex hex;have hmx:=mem_listed hex;simp[go_sem,hce] at hmx
   clear hKx Kx hcv hce hc1;refine Goes.stop (λw₆ h₆=>?_);replace hF:=Kn.bW hF h₆;clear h₆;refine⟨rfl,_,stepG_markAt .acquire (by simp) rfl rfl (by k_ne) rfl H.f_acquire (x_acquire_n L) (x_acquire_b L) (x_acquire_x L) (x_acquire_f L) (by simp[Act.eval,stA]),rfl,?_⟩;unfold PX;clear hF;have hF:True:=trivial;walk_nrm;iterate 9 (first|w_go Ez|u_cnd true Ez hF|u_cnd false Ez hF)
   u_leave0 H.f_wait Ez hF
   exact Goes.stop λ_ _=>rfl
  ·refine⟨_,stepG_cas_miss (v:=(v':Int)*KK) (old:=S) (n:=S+1) rfl rfl (by k_ne) rfl H.f_casU64 (x_casU64_n L) (x_casU64_b L) (x_casU64_x L) .u64 (x_casU64_f L) rfl rfl rfl hw.cellSt (hw.thaw 0) (by rw[<-hS];simp only[KK];omega),Z7 (n:=20) ?_⟩;clear hw;walk_nrm;iterate 3 (first|w_go Kn.bW|u_cnd true Kn.bW hF|u_cnd false Kn.bW hF)
   u_leave1 H.f_uCas Kn.bW hF
   iterate 5 (first|w_go Kn.bW|u_cnd true Kn.bW hF|u_cnd false Kn.bW hF)
   refine Goes.stop (λw₃ h₃=>?_);exact⟨_,rfl,by simp,by simp,back _ (Kn.bW hF h₃)⟩
theorem b51(H:WgLib Z.P L)(hty:Z.ty=L.tWg){w0 w:World}(hF:Kn Z none w0 w):
 ∃T,W0 Z (AtKd Z (PW Z L w0 (b₀.at a₀ (.inRegion ops₀ (i₀::rest₀)::k₀)) cs)) T none (G ((base L.wait).at ⟨#[.pointer (some ⟨Z.Wg,0,none⟩)]++Array.replicate 83 undef,[]⟩ [.code (body_wait L)]) (b₀.at a₀ (.inRegion ops₀ (i₀::rest₀)::k₀)::cs)) w:=by
 lib_facts;refine Z7 (n:=3) ?_;simp only[body_wait,waitFn,aP];walk_nrm;iterate 3 (first|w_go Kn.rely|u_cnd true Kn.rely hF|u_cnd false Kn.rely hF)
 refine Goes.stop (λw₁ h₁=>?_);replace hF:=Kn.rely hF h₁;clear h₁;refine⟨rfl,_,stepG_mark0 .disable (by simp) rfl rfl (by k_ne) rfl H.f_disable (x_disable_n L) (x_disable_b L) (x_disable_x L) (x_disable_f L),Z7 (Stop:=λ_=>PW Z L w0 _ cs) (n:=3) ?_⟩;walk_nrm;iterate 3 (first|w_go Kn.rely|u_cnd true Kn.rely hF|u_cnd false Kn.rely hF)
 exact Goes.stop (λw₂ h₂=>⟨_,rfl,by simp,by simp,Kn.rely hF h₂⟩)
end
end Go.Mw
namespace Go.Proofs.YtgpbhjjajpbeeaaGreatDoor
section
open Go.RowKit
abbrev link:Go.Conc.Lib.WgLink:={add:=58,done:=60,wait:=63,relMerge:=99,disable:=100,enable:=101,inBubble:=102,associate:=103,fatal:=104,uOr:=105,uAdd:=106,raceRead:=107,uLoad:=108,uStore:=109,disassociate:=110,semrelease:=111,acquire:=113,isAssociated:=114,uCas:=115,raceWrite:=116,semacquire:=117,orU64:=157,addU64:=158,loadU64:=159,storeU64:=160,casU64:=161,tWgP:=207,tUP:=209,tAssoc:=210,tWg:=149,tAU:=146,tU64:=24,tUint:=56,tU32:=147,tPU32:=214,tPAU:=284,tPU64:=286,tNoCopy:=144,tANoCopy:=140,tAlign64:=141}
theorem wgLib:Go.Conc.Lib.WgLib prog link:=
 ⟨func58,func60,func63,func99,func100,func101,func102,func103,func104,func105,func106,func107,func108,func109,func110,func111,func113,func114,func115,func116,func117,func157,func158,func159,func160,func161,underlying207,Tryz.runUnderlying207,Tryz.sizeOf207,Tryz.isAgg207,Tryz.zeroValue207,underlying209,Tryz.runUnderlying209,Tryz.sizeOf209,Tryz.isAgg209,Tryz.zeroValue209,underlying210,Tryz.runUnderlying210,Tryz.sizeOf210,Tryz.isAgg210,Tryz.zeroValue210,underlying149,Tryz.runUnderlying149,Tryz.sizeOf149,Tryz.isAgg149,Tryz.zeroValue149,underlying146,Tryz.runUnderlying146,Tryz.sizeOf146,Tryz.isAgg146,Tryz.zeroValue146,underlying24,Tryz.runUnderlying24,Tryz.sizeOf24,Tryz.isAgg24,Tryz.zeroValue24,underlying56,Tryz.runUnderlying56,Tryz.sizeOf56,Tryz.isAgg56,Tryz.zeroValue56,underlying147,Tryz.runUnderlying147,Tryz.sizeOf147,Tryz.isAgg147,Tryz.zeroValue147,underlying214,Tryz.runUnderlying214,Tryz.sizeOf214,Tryz.isAgg214,Tryz.zeroValue214,underlying284,Tryz.runUnderlying284,Tryz.sizeOf284,Tryz.isAgg284,Tryz.zeroValue284,underlying286,Tryz.runUnderlying286,Tryz.sizeOf286,Tryz.isAgg286,Tryz.zeroValue286,underlying0,Tryz.runUnderlying0,Tryz.sizeOf0,Tryz.isAgg0,Tryz.zeroValue0,underlying3,Tryz.runUnderlying3,Tryz.sizeOf3,Tryz.isAgg3,Tryz.zeroValue3,underlying4,Tryz.runUnderlying4,Tryz.sizeOf4,Tryz.isAgg4,Tryz.zeroValue4,underlying9,Tryz.runUnderlying9,Tryz.sizeOf9,Tryz.isAgg9,Tryz.zeroValue9,underlying20,Tryz.runUnderlying20,Tryz.sizeOf20,Tryz.isAgg20,Tryz.zeroValue20,underlying21,Tryz.runUnderlying21,Tryz.sizeOf21,Tryz.isAgg21,Tryz.zeroValue21,(by kernel_rfl),(by kernel_rfl)⟩
end
end Go.Proofs.YtgpbhjjajpbeeaaGreatDoor
namespace Go.Mw
section
open Go.Conc
open Mc
set_option linter.unusedSectionVars false
variable[Go.ConcR.Payload]{Z:Pz}{x:Option Nat}{Stop:Option Nat->Goroutine->World->Prop}{b:Frame}{a:Act}{k:List Item}{cs:List Frame}{w:World}{g g':Goroutine}
theorem AS{w₁:World}(h:∃T,W0 Z Stop T x g w)(r:R0 Z x w w₁):∃T,W0 Z Stop T x g w₁:=let ⟨T,h⟩:=h;⟨T,Wk.rely (R:=R0 Z) (λ_ _ _ _ h1 h2=>R0.trans Z h1 h2) h r⟩
theorem c36(w:World):D0 Z x x w w #[]:=AW (by simp)
theorem N9(hrun:g.status=.running)(h:∀w,stepG Z.P true g w=.go g' w)(h':∃T,W0 Z Stop T x g' w):∃T,W0 Z Stop T x g w:=
 Wk.step hrun λw₁ r=>let ⟨T,hT⟩:=AS h' r;⟨g',w₁,#[],x,T,h w₁,c36 w₁,hT⟩
theorem AK(hrun:g.status=.running)(h:∀w₁,R0 Z x w w₁->∃g' w' es x',stepG Z.P true g w₁=.go g' w' es/\D0 Z x x' w₁ w' es/\∃T,W0 Z Stop T x' g' w'):∃T,W0 Z Stop T x g w:=
 Wk.step hrun λw₁ r=>let ⟨g',w',es,x',h1,h2,T,h3⟩:=h w₁ r;⟨g',w',es,x',T,h1,h2,h3⟩
theorem AI{ops:Array Oper}{i:Nat}{rest:List Nat}{o:Oper}{f:FuncId}{fn:Func}{c:Code}{args:Array Operand}{ats:Array TypeId}(ho:ops[i]?=some o)(hw:Region.wanted o (yielded ops a.tmps)=true)(hk:b.kind≠.early)
 (hop:o.op=.call {callee:=.value (.func f),args,argTypes:=ats})(hf:Z.P.funcs[f]?=some fn)(hname:(fn.name== "runtime.NumGoroutine")=false)(hb:fn.body=some c)
 (h:∃T,W0 Z Stop T x (G ((base f).at {tmps:=args.map a.eval++Array.replicate (fn.ntmps - (args.map a.eval).size) undef,defers:=[]} [.code c]) (b.at a (.inRegion ops (i::rest)::k)::cs)) w):
 ∃T,W0 Z Stop T x (G (b.at a (.inRegion ops (i::rest)::k)) cs) w:=by
 refine N9 rfl (λw₁=>?_) h;obtain⟨g',w',es,e,e1⟩:=goes_elim (goes_call (K:=λg' w' es=>g'=_/\w'=w₁/\es=#[]) ho hw hk hop hf hname hb ⟨rfl,rfl,rfl⟩:(stepG Z.P true (G (b.at a (.inRegion ops (i::rest)::k)) cs) w₁).goes _);obtain⟨rfl,rfl,rfl⟩:=e1;exact e
theorem Hw{ops:Array Oper}{i:Nat}{rest:List Nat}{o:Oper}{v:Value}(ho:ops[i]?=some o)(hw:Region.wanted o (yielded ops a.tmps)=true)(hk:b.kind≠.early)(hr:∀w,(execOp a.eval o).run Z.P w=.ok (.value v) w)
 (he:∀w,(execOp a.eval o).events Z.P w #[]=#[])(h:∃T,W0 Z Stop T x (G (b.at (a.put o.dst v) (.inRegion ops rest::k)) cs) w):∃T,W0 Z Stop T x (G (b.at a (.inRegion ops (i::rest)::k)) cs) w:=by
 refine N9 rfl (λw₁=>?_) h;rw[stepG_value ho hw hk (hr w₁)];have e:listed Z.P b.fn a o w₁=#[]:=by unfold listed;rw[he w₁];exact seen_none _ _
 rw[e]
theorem sR{ops:Array Oper}{i:Nat}{rest:List Nat}{o:Oper}(ho:ops[i]?=some o)(hw:Region.wanted o (yielded ops a.tmps)=true)(hk:b.kind≠.early)
 (h:∀w₁,R0 Z x w w₁->∃v w' x',(execOp a.eval o).run Z.P w₁=.ok (.value v) w'/\D0 Z x x' w₁ w' (listed Z.P b.fn a o w₁)/\∃T,W0 Z Stop T x' (G (b.at (a.put o.dst v) (.inRegion ops rest::k)) cs) w'):
 ∃T,W0 Z Stop T x (G (b.at a (.inRegion ops (i::rest)::k)) cs) w:=by
 refine AK rfl λw₁ r=>?_;obtain⟨v,w',x',h1,h2,h3⟩:=h w₁ r;exact⟨_,w',_,x',stepG_value ho hw hk h1,h2,h3⟩
theorem c38{ops:Array Oper}{i:Nat}{rest:List Nat}{o:Oper}(ho:ops[i]?=some o)(hw:Region.wanted o (yielded ops a.tmps)=true)(hk:b.kind≠.early)
 (h:∀w₁,R0 Z x w w₁->∃w' x',(execOp a.eval o).run Z.P w₁=.ok .skip w'/\D0 Z x x' w₁ w' (listed Z.P b.fn a o w₁)/\∃T,W0 Z Stop T x' (G (b.at (a.put o.dst undef) (.inRegion ops rest::k)) cs) w'):
 ∃T,W0 Z Stop T x (G (b.at a (.inRegion ops (i::rest)::k)) cs) w:=by
 refine AK rfl λw₁ r=>?_;obtain⟨w',x',h1,h2,h3⟩:=h w₁ r;exact⟨_,w',_,x',stepG_none ho hw hk h1,h2,h3⟩
theorem c39(h:∀w₁,R0 Z x w w₁->Stop x g w₁):∃T,W0 Z Stop T x g w:=⟨.leaf,Wk.stop h⟩
theorem L8{T:Array Value}{ds:List Deferred}{i:Nat}{v:Value}(h:T[i]?=some v):Act.eval ⟨T,ds⟩ (.tmp i)=v:=by
 show T.getD i undef=v;rw[aA,h];rfl
theorem C9{T:Array Value}{i j:Nat}{v u:Value}(h:T[i]?=some v)(hij:j≠i):(T.setIfInBounds j u)[i]?=some v:=by
 rw[aK hij];exact h
theorem wO{T:Array Value}{i:Nat}{u:Value}(h:i<T.size):(T.setIfInBounds i u)[i]?=some u:=by
 rw[bT h]
end
end Go.Mw
namespace Go.Zn
section
structure ZB where
 F:FuncId->Bool
 T:TypeId->Bool
 N:String->Bool
 G:Nat
def ZB.zone(B:ZB):Zone:={D:=λb=>b<=B.G,F:=λf=>B.F f=true,T:=λt=>B.T t=true,N:=λn=>B.N n=true,Y:=λ_=>False}
variable(B:ZB)
def JG:Fn->Bool
 | .func f=>B.F f
 | .method n=>B.N n
 | _=>false
def sS:Nat->Value->Bool
 | 0,_=>false
 | n+1,v=>match v with
  | .bool _|.int .. | .float .. | .complex .. | .string _|.pointer none|.slice none _ _|.map none|.chan none|.nilFunc|.nilIface=>true
  | .pointer (some a)=>decide (a.block<=B.G)
  | .func fn f c=>JG B fn&&f.toList.all (sS n)&&c.toList.all (sS n)
  | .iface t v=>B.T t&&sS n v
  | .agg c|.tuple c=>c.toList.all (sS n)
  | _=>false
def JM:Operand->Bool
 | .tmp _=>true
 | .const v=>sS B 8 v
 | .global g=>decide (g<=B.G)
 | .func f=>B.F f
def B6:Callee->Bool
 | .invoke _ n=>B.N n
 | .builtin b=>SY b
 | .value _=>true
def yb:Op->Bool
 | .makeInterface t _=>B.T t
 | .makeFunc fn _ _=>JG B fn
 | .call c=>B6 B c.callee
 | .go _|.defer _|.send .. | .recv .. | .select .. | .makeChan .. | .ready _|.waits _|.mapEntry .. | .entryStore .. | .sliceToArrayPointer ..=>false
 | _=>true
def JF(o:Op):Bool:=yb B o&&o.operands.toList.all (JM B)
def ny:Code->Bool
 | .seq a b=>ny a&&ny b
 | .cond _ a b=>ny a&&ny b
 | .block _ b=>ny b
 | .loop b=>ny b
 | .scope b=>ny b
 | .region _ ops _=>ops.toList.all λo=>JF B o.op
 | .rangeFunc f _ assign body=>JM B f&&ny assign&&ny body
 | _=>true
variable{B}
theorem JG.sound{f:Fn}(h:JG B f=true):xJ B.zone f:=by
 cases f with
 | func f=>exact .func f h
 | method n=>exact .method n h
 | _=>cases h
theorem sS.sound:∀(n:Nat)(v:Value),sS B n v=true->VP B.zone v:=by
 intro n
 induction n with
 | zero=>intro v h;cases h
 | succ n ih=>
  have all:∀c:Array Value,c.toList.all (sS B n)=true->∀x∈c,VP B.zone x:=λc hc x hx=>ih x (aQ.1 hc x (by simpa using hx));intro v h;unfold sS at h;split at h<;>first|(constructor;done)|skip
  ·rename_i a;exact .ptr a (dF (p:=a.block<=B.G) h:a.block<=B.G)
  ·rename_i fn f c;simp only[aH] at h;exact .func fn f c (JG.sound h.1.1) (all f h.1.2) (all c h.2)
  ·rename_i t v;simp only[aH] at h;exact .iface t v h.1 (ih v h.2)
  ·exact .agg _ (all _ h)
  ·exact .tuple _ (all _ h)
  ·cases h
theorem JM.sound{x:Operand}(h:JM B x=true):GH B.zone x:=by
 cases x with
 | tmp t=>trivial
 | const v=>exact sS.sound _ _ h
 | global g=>exact(dF (p:=g<=B.G) h:g<=B.G)
 | func f=>exact h
theorem JF.sound{o:Op}(h:JF B o=true):ES B.zone o:=by
 unfold JF at h;simp only[aH] at h;refine⟨?_,λx hx=>JM.sound (aQ.1 h.2 x (by simpa using hx))⟩;have h1:=h.1;cases o<;>first|trivial|exact h1|(exact JG.sound h1)|(cases h1;done)|skip
 rename_i c;show JV B.zone c.callee;have h2:B6 B c.callee=true:=h1;cases hc:c.callee<;>rw[hc] at h2<;>first|exact h2|trivial
theorem ny.sound:∀{c:Code},ny B c=true->eX B.zone c:=by
 intro c
 induction c with
 | seq a b iha ihb=>intro h;simp only[ny,aH] at h;exact⟨iha h.1,ihb h.2⟩
 | cond _ a b iha ihb=>intro h;simp only[ny,aH] at h;exact⟨iha h.1,ihb h.2⟩
 | block _ b ih=>intro h;exact ih h
 | loop b ih=>intro h;exact ih h
 | scope b ih=>intro h;exact ih h
 | region _ ops _=>intro h o ho;exact JF.sound (aQ.1 (show ops.toList.all (λo=>JF B o.op)=true from h) o (by simpa using ho))
 | rangeFunc f _ a b iha ihb=>intro h;simp only[ny,aH] at h;exact⟨JM.sound h.1.1,iha h.1.2,ihb h.2⟩
 | _=>intro _;trivial
end
section
open Go.Made
variable{Z:Zone}
def mF(Z:Zone)(i:TypeInfo):Prop:=∀z,i.zero=some z->VP Z z
theorem b9r{α β:Type}(P:β->Prop)(f:α->β->Option (ForInStep β))(hf:∀a b s,P b->f a b=some s->P (match s with|.yield b=>b|.done b=>b)):
 ∀(l:List α)(b b':β),P b->forIn l b f=some b'->P b':=by
 intro l
 induction l with
 | nil=>intro b b' h e;simp at e;exact e▸h
 | cons a l ih=>
  intro b b' h e;rw[oI] at e
  cases hs:f a b with
  | none=>rw[hs] at e;cases e
  | some s=>
   rw[hs] at e;have:=hf a b s h hs
   cases s with
   | yield b1=>exact ih b1 b' this e
   | done b1=>simp at e;exact e▸this
theorem JU{d:TypeDesc}{s:String}{z:Value}{c:Bool}{n:Nat}(h:VP Z z):mF Z (word d s z c n)/\(word d s z c n).methods=#[]:=⟨λz' e=>by
 simp only[word,bJ] at e;exact e▸h,rfl⟩
theorem b9s{info:TypeId->Option TypeInfo}(hi:∀t i,info t=some i->mF Z i){fs:Array Field}{i:TypeInfo}(h:reckonStruct info fs=some i):mF Z i/\i.methods=#[]:=by
 unfold reckonStruct at h;simp only[bind,bI] at h;obtain⟨a,ha,hr⟩:=h;rw[<-jJ] at ha;have key:∀zs,a.2.2.2.2.2.2.2.1=some zs->AP Z zs:=by
  refine b9r (P:=λb=>∀zs,b.2.2.2.2.2.2.2.1=some zs->AP Z zs) _ ?_ _ _ _ ?_ ha
  ·intro f b s hb e;obtain⟨i,hi',e⟩:=bI.1 e;have hz:=hi _ _ hi';have fin:∀zs,(if b.2.1+i.size>mostCells then none else b.2.2.2.2.2.2.2.1.bind λx=>i.zero.bind λy=>pure (x++y.cells))=some zs->AP Z zs:=by
    intro zs h;split at h
    ·cases h
    ·obtain⟨x,hx,h⟩:=bI.1 h;obtain⟨y,hy,h⟩:=bI.1 h;injection h with h;subst h;exact(hb x hx).append (hz y hy).cells
   by_cases h1:i.str.isEmpty=true
   ·rw[if_pos h1] at e;simp at e
   rw[if_neg h1] at e;by_cases h2:f.embedded=true
   ·simp[h2] at e
   rw[if_neg h2] at e;have tail:∀tag,(λtag:String=>if i.bytes=0 then pure (f:=Option) (ForInStep.yield (b.1.push {name:=f.name,type:=f.type,offset:=b.2.1,embedded:=f.embedded,tag:=f.tag,pkgPath:=f.pkgPath,byteOffset:=roundUp b.2.2.1 i.align},b.2.1+i.size,roundUp b.2.2.1 i.align+i.bytes,max b.2.2.2.1 i.align,roundUp b.2.2.1 i.align+i.bytes,b.2.2.2.2.2.1||i.hasPointers,b.2.2.2.2.2.2.1&&i.comparable,(if b.2.1+i.size>mostCells then none else b.2.2.2.2.2.2.2.1.bind λx=>i.zero.bind λy=>pure (x++y.cells)),b.2.2.2.2.2.2.2.2++ " "++f.name++ " "++i.str++tag++if b.1.size+1<fs.size then ";" else "")) else pure (ForInStep.yield (b.1.push {name:=f.name,type:=f.type,offset:=b.2.1,embedded:=f.embedded,tag:=f.tag,pkgPath:=f.pkgPath,byteOffset:=roundUp b.2.2.1 i.align},b.2.1+i.size,roundUp b.2.2.1 i.align+i.bytes,max b.2.2.2.1 i.align,b.2.2.2.2.1,b.2.2.2.2.2.1||i.hasPointers,b.2.2.2.2.2.2.1&&i.comparable,(if b.2.1+i.size>mostCells then none else b.2.2.2.2.2.2.2.1.bind λx=>i.zero.bind λy=>pure (x++y.cells)),b.2.2.2.2.2.2.2.2++ " "++f.name++ " "++i.str++tag++if b.1.size+1<fs.size then ";" else ""))) tag=some s->(match s with|.yield b=>∀zs,b.2.2.2.2.2.2.2.1=some zs->AP Z zs|.done b=>∀zs,b.2.2.2.2.2.2.2.1=some zs->AP Z zs):=by
    intro tag h;dsimp only at h;split at h<;>(injection h with h;subst h;exact fin)
   split at e
   ·obtain⟨tag,_,e⟩:=bI.1 e;cases s<;>exact tail tag e
   ·obtain⟨tag,_,e⟩:=bI.1 e;cases s<;>exact tail tag e
  ·intro zs h;injection h with h;subst h;exact AP.nil
 split at hr<;>(injection hr with hr;subst hr;refine⟨λz h=>?_,rfl⟩;obtain⟨c,hc,rfl⟩:=aS.1 h;exact .agg _ (key c hc))
theorem b9t{info:TypeId->Option TypeInfo}(hi:∀t i,info t=some i->mF Z i){d:TypeDesc}{i:TypeInfo}(h:reckon info d=some i):mF Z i/\i.methods=#[]:=by
 cases d with
 | pointer e=>
  simp only[reckon,bind,bI] at h;obtain⟨j,_,h⟩:=h;split at h
  ·cases h
  ·split at h
   ·cases h
   ·obtain⟨s,_,h⟩:=bI.1 h;injection h with h;subst h;exact JU .jc
  ·obtain⟨s,_,h⟩:=bI.1 h;injection h with h;subst h;exact JU .jc
 | slice e=>
  simp only[reckon,bind,bI] at h;obtain⟨j,_,s,_,h⟩:=h
  injection h with h;subst h;exact JU (.gy _ _)
 | map k e=>
  simp only[reckon,bind,bI] at h;obtain⟨j,_,s,_,j',_,s',_,h⟩:=h
  injection h with h;subst h;exact JU .Bq
 | chan dir e=>
  simp only[reckon,bind,bI] at h;obtain⟨j,_,s,_,h⟩:=h
  injection h with h;subst h;exact JU .Gz
 | func ps rs v=>
  simp only[reckon,bind,bI] at h;obtain⟨s,_,h⟩:=h
  injection h with h;subst h;exact JU .nilFunc
 | array n e=>
  simp only[reckon,bind,bI] at h;obtain⟨j,hj,s,_,h⟩:=h;injection h with h;subst h;refine⟨λz h=>?_,rfl⟩;dsimp only at h;split at h
  ·cases h
  ·split at h
   ·injection h with h;subst h;exact .agg _ AP.nil
   ·obtain⟨z',hz',rfl⟩:=aS.1 h;have hc:=(hi _ _ hj z' hz').cells;refine .agg _ λx hx=>?_;simp only[Array.mem_flatten,Array.mem_replicate] at hx;obtain⟨l,⟨_,rfl⟩,hx⟩:=hx
    exact hc x hx
 | struct fs=>exact b9s hi h
 | _=>cases h
theorem IN{T:Tables}(hT:∀(t:Nat)(i:TypeInfo),T.types[t]?=some i->mF Z i):∀f t i,Made.infoAt T f t=some i->mF Z i/\(T.types.size<=t->i.methods=#[])
 | 0,_,_,h=>by cases h
 | f+1,t,i,h=>by
  unfold Made.infoAt at h;split at h
  ·rename_i hlt;exact⟨hT t i h,λhge=>absurd hlt (Nat.not_lt.mpr hge)⟩
  ·obtain⟨d,_,h⟩:=bI.1 h;have:=b9t (λt i h=>(IN hT f t i h).1) h;exact⟨this.1,λ_=>this.2⟩
theorem pO{T:Tables}(hT:∀(t:Nat)(i:TypeInfo),T.types[t]?=some i->mF Z i){t:TypeId}{i:TypeInfo}(h:T.info? t=some i):mF Z i/\(T.types.size<=t->i.methods=#[]):=by
 unfold Tables.info? at h;split at h
 ·rename_i hlt;exact⟨hT t i h,λhge=>absurd hlt (Nat.not_lt.mpr hge)⟩
 ·exact IN hT _ t i h
theorem rD{T:Tables}{t:TypeId}(ht:t<T.types.size){i:TypeInfo}(h:T.info? t=some i):T.types[t]?=some i:=by
 unfold Tables.info? at h;rw[if_pos ht] at h;exact h
end
end Go.Zn
