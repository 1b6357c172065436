/- A part of what the last file proves. -/
import Derived.Test.YtgpbhjjajpbeeaaGreatDoorO21
import Derived.OwnWalk
import Derived.Sort.MapsRangeIn
import Derived.Sort.KeysCollected
import Derived.RangeFuncStops
import Derived.RangeFuncNested
import Derived.RangeFuncBound
import Derived.RangeFuncCalls
import Derived.RangeFuncLeaves
import Derived.Shelf.Abstract
import Derived.Shelf.AbstractIn
import Derived.Shelf.RegionOpen
import Derived.OwnWalkIn
import Derived.TacticsInMore
import Derived.RegionIn
import Derived.LoopNIn
import Derived.LoopIn
import Derived.Maps.AppendAt
set_option linter.all false
set_option maxRecDepth 100000
set_option maxHeartbeats 6400000
open Go.Proofs.Tryz
namespace Go.Proofs.YtgpbhjjajpbeeaaGreatDoor
section
open Go.RowKit Go.Lib Go.Maps Dk Pl
def Qk(p:Int×Value×Nat):List Value:=[.int .i64 p.1,p.2.1,.int .i64 p.2.2]
def TF(W:World)(g i:Nat)(ids:List Int)(bss:List (List UInt8)):Prop:=
 W.cell? ⟨g,i*3,none⟩=some (.int .i64 (ids.getD i 0))/\W.cell? ⟨g,i*3+2,none⟩=some (.int .i64 ((bss.getD i []).length:Nat))/\
  ∃u,W.cell? ⟨g,i*3+1,none⟩=some u/\oG W 116 5 u (N7 (bss.getD i [])).length ((N7 (bss.getD i [])).flatMap Ho)
def wK(W:World)(rb gen:Nat)(ids:List Int)(bss:List (List UInt8)):Prop:=
 ∃(a:Option Addr)(cap:Nat),o8 W rb 50 #[.int .u64 gen,.slice a ids.length cap]/\ids.length<=cap/\cap<=9223372036854775807/\bss.length=ids.length/\∀i,i<ids.length->∃g,a=some ⟨g,0,none⟩/\TF W g i ids bss
theorem TF.ext{w w':World}{g i:Nat}{ids:List Int}{bss:List (List UInt8)}(h:TF w g i ids bss)(hE:Ext w w'):TF w' g i ids bss:=by
 obtain⟨h1,h2,u,h3,h4⟩:=h;exact⟨hE.cell h1,hE.cell h2,u,hE.cell h3,h4.keep λb hb=>hE.block b (h4.lt hb)⟩
theorem wK.ext{w w':World}{rb gen:Nat}{ids:List Int}{bss:List (List UInt8)}(h:wK w rb gen ids bss)(hE:Ext w w'):wK w' rb gen ids bss:=by
 obtain⟨a,cap,h1,h2,h3,h4,h5⟩:=h;exact⟨a,cap,(hE.block rb h1.lt).trans h1,h2,h3,h4,λi hi=>let ⟨g,e,h⟩:=h5 i hi;⟨g,e,h.ext hE⟩⟩
structure Dh(W:World)(B rb gen:Nat)(ids:List Int)(bss:List (List UInt8))(rows:List (Int×Value×Nat))(v:Value):Prop where
 box:o8 W rb 50 #[.int .u64 gen,v]
 row:W.ownsRow B 54 3 v rows.length (rows.flatMap Qk)
 len:rows.length=bss.length
 seg:∀(i:Nat)p,rows[i]?=some p->p.1=ids.getD i 0/\p.2.2=(bss.getD i []).length/\W.ownsRow B 116 5 p.2.1 (N7 (bss.getD i [])).length ((N7 (bss.getD i [])).flatMap Ho)
theorem xT{w:World}{B:Nat}{e:TypeId}{size:Nat}{v:Value}{n:Nat}{xs:List Value}(h:w.ownsRow B e size v n xs):oG w e size v n xs:=by
 refine⟨h.1,?_⟩;rcases h.2 with h|⟨g,cap,cur,rfl,_,h2,h3,h4,h5,h6⟩
 ·exact .inl h
 ·exact .inr ⟨g,cap,cur,_,rfl,h2,h3,h4,h5,h6⟩
theorem Dh.store{W:World}{B rb gen:Nat}{ids:List Int}{bss:List (List UInt8)}{rows:List (Int×Value×Nat)}{v:Value}(h:Dh W B rb gen ids bss rows v)(hl:bss.length=ids.length):wK W rb gen ids bss:=by
 have hrl:rows.length=ids.length:=h.len.trans hl;have hrow:=h.row;have hm:maxLen<=9223372036854775807:=by unfold maxLen;omega
 have hform:∃(a:Option Addr)(cap:Nat),v=.slice a ids.length cap/\ids.length<=cap/\cap<=9223372036854775807:=by
  rcases hrow.2 with⟨rfl,h0⟩|⟨g,cap,cur,rfl,_,_,h3,h4,_⟩
  ·exact⟨none,0,by rw[<-hrl,h0],by omega,by omega⟩
  ·exact⟨_,cap,by rw[hrl],by omega,by omega⟩
 obtain⟨a,cap,rfl,h1,h2⟩:=hform;refine⟨a,cap,h.box,h1,h2,hl,λi hi=>?_⟩;have hp:rows[i]?=some rows[i]:=au (by omega);obtain⟨g,cap',e,-,-,-,hc⟩:=Hr (f:=Qk) (λ_=>rfl) hrow hp;injection e with e1 e2 e3;obtain⟨s1,s2,s3⟩:=h.seg i _ hp;have c0:=hc 0 _ rfl;have c1:=hc 1 _ rfl;have c2:=hc 2 _ rfl;rw[jw,s1] at c0;rw[s2] at c2;exact⟨g,e1,c0,c2,_,c1,xT s3⟩
theorem Dh.keep{W W':World}{B rb gen:Nat}{ids:List Int}{bss:List (List UInt8)}{rows:List (Int×Value×Nat)}{v:Value}(h:Dh W B rb gen ids bss rows v)(hk:∀b,b<W.heap.size->W'.heap[b]?=W.heap[b]?):Dh W' B rb gen ids bss rows v where
 box:=(hk rb h.box.lt).trans h.box
 row:=iV.row h.row W' λb hb=>hk b (World.ownsRow.lt h.row b hb).2
 len:=h.len
 seg:=λi p hp=>⟨(h.seg i p hp).1,(h.seg i p hp).2.1,iV.row (h.seg i p hp).2.2 W' λb hb=>hk b (World.ownsRow.lt (h.seg i p hp).2.2 b hb).2⟩
def JC(W:World)(B rb gen:Nat)(ids:List Int)(bss:List (List UInt8)):Prop:=∀W':World,(∀b,B<=b->b<W.heap.size->W'.heap[b]?=W.heap[b]?)->wK W' rb gen ids bss
theorem JC.get{W:World}{B rb gen:Nat}{ids:List Int}{bss:List (List UInt8)}(h:JC W B rb gen ids bss):wK W rb gen ids bss:=h W λ_ _ _=>rfl
theorem JC.held{W:World}{F:Nat->Prop}{B rb gen:Nat}{ids:List Int}{bss:List (List UInt8)}(h:JC W B rb gen ids bss)(hF:∀b,F b->b<B):Held W F (λW=>wK W rb gen ids bss):=
 ⟨λb=>B<=b/\b<W.heap.size,λb hb=>⟨hb.2,λhf=>by have:=hF b hf;omega⟩,λW' hw=>h W' λb h1 h2=>hw b ⟨h1,h2⟩⟩
theorem Dh.new{W:World}{B B' rb gen:Nat}{ids:List Int}{bss:List (List UInt8)}{rows:List (Int×Value×Nat)}{v:Value}(h:Dh W B rb gen ids bss rows v)(hl:bss.length=ids.length)(hr:B<=rb)(hB:B'<=B):JC W B' rb gen ids bss:=λW' hk=>
 Dh.store (W:=W') (B:=B) (rows:=rows) (v:=v) ⟨(hk rb (by omega) h.box.lt).trans h.box,iV.row h.row W' λb hb=>hk b (by have:=(World.ownsRow.lt h.row b hb).1;omega) (World.ownsRow.lt h.row b hb).2,h.len,
  λi p hp=>⟨(h.seg i p hp).1,(h.seg i p hp).2.1,iV.row (h.seg i p hp).2.2 W' λb hb=>hk b (by have:=(World.ownsRow.lt (h.seg i p hp).2.2 b hb).1;omega) (World.ownsRow.lt (h.seg i p hp).2.2 b hb).2⟩⟩ hl
def Hq(l:Fl)(w:World)(e:Ending)(w':World):Prop:=
 ∃v,e=.returned (.tuple #[v,.int .i64 (N8 l).2.1,bC (N8 l).2.2])/\Ext w w'/\(((N8 l).1=none/\v=.pointer none)\/∃g ids bss rb,(N8 l).1=some (g,ids,bss)/\Em ids/\(∀i,(bss.getD i []).length<=1099511627776)/\v=o7 rb/\w.heap.size<=rb/\JC w' w.heap.size rb g ids bss)
theorem cU(v:Value)(l:Fl)(w:World)(h:Y2 w v l)(hl:∀p∈l,p.2.length<=1099511627776):
 Calls prog 17 #[v] w (Hq l w):=by
 obtain⟨i0,hi0,hz0,hz1,hz2⟩:=info_parts b9Z;have hfd:=K2 v l I5 w h;have Dv:=ah hfd;have HF:=ah h;have HL:=ah hl;clear hfd h hl;unfold bC at Dv;unfold I5 at Dv;go_enter func17,ntmps17
 go_wp2_with fail
 refine Dv.out.mono ?_;rintro e w1 ⟨rfl,bv,rfl,hbv⟩
 cases hm:D7 l [109,97,110,105,102,101,115,116] with
 | none=>
  have hfin:Hq l w1 (.returned (.tuple #[.pointer none,.int .i64 5,.string ⟨#[]⟩])) w1:=by
   have e:=Vq hm;exact⟨.pointer none,by rw[e];rfl,Ext.refl w1,.inl ⟨by rw[e],rfl⟩⟩
  have qF:=ah hfin;clear hfin hbv Dv;go_wp2;go_ret3
  exact qF.out
 | some m=>
  rw[hm] at hbv;have hrm:=a9L bv m w1 hbv;have Ik:=ah hrm;clear hrm hbv Dv;go_wp2_with fail
  refine Ik.out.mono ?_;rintro e w5 ⟨gv,iv,ok,rfl,mg,hcase⟩;clear Ik;rcases hcase with⟨hrd,rfl,rfl,rfl⟩|⟨gen,ids,hrd,rfl,rfl,hown⟩
  ·have hfin:Hq l w1 (.returned (.tuple #[.pointer none,.int .i64 6,.string ⟨#[]⟩])) w5:=by
    have e:=UW hm hrd;exact⟨.pointer none,by rw[e];rfl,mg,.inl ⟨by rw[e],rfl⟩⟩
   have qF:=ah hfin;clear hfin hrd hm mg;go_wp2;go_ret3
   exact qF.out
  ·have hin:=Cd hrd;have hints:=iQ.ints hown;obtain⟨xa,xc,rfl⟩:=ownsRow_form hown;have hf5:=HF.out.ext mg;have Oe:o8 (w5.alloc (.cells #[.int .u64 gen,.slice none 0 0] 50)) w5.heap.size 50 #[.int .u64 gen,.slice none 0 0]:=o8.new _ _ rfl;have hil:=hin.1;have HX:=ah hints;have RI:=ah hin;have r_:=ah mg;have gw:=ah hf5;have HM:=ah hm;have lY:=ah hrd;clear hints hin mg hf5 hm hrd hown HF;go_wp2_with fail
   go_loopw [11] (λi wr=>∃(k:Nat)(acc:List (List UInt8))(rows:List (Int×Value×Nat))(sv:Value),i=.int .i64 k/\k<=ids.length/\acc.length=k/\(∀b∈acc,b.length<=1099511627776)/\P8 l ids []=P8 l (ids.drop k) acc/\Dh wr w5.heap.size w5.heap.size gen ids acc rows sv/\Ext w5 wr) (λi _=>ids.length - (intOf i).toNat)
   case atStart=>exact⟨0,[],[],.slice none 0 0,rfl,by omega,rfl,by simp,rfl,⟨Oe,⟨rfl,Or.inl ⟨rfl,rfl⟩⟩,rfl,by simp⟩,(Ext.refl w5).new _⟩
   case round=>
    obtain⟨k,acc,rows,sv,rfl,hk,hal,hab,hsg,hS,hE⟩:=hrel;by_cases hlt:k<ids.length
    ·obtain⟨xb,rfl,qV⟩:=HX.out.at hE hlt;have hr:=RI.out.2 ids[k] (fE hlt);obtain⟨y,hy⟩:∃y:Nat,ids[k]=(y:Int):=⟨ids[k].toNat,by omega⟩;rw[hy] at qV hr;have hnm:=cN I8 y wr (by simp[I8]) (by omega);obtain⟨name,hname⟩:∃name,F6 I8 y=name:=⟨_,rfl⟩;have hdrop:ids.drop k=(y:Int)::ids.drop (k+1):=by rw[gY hlt,hy]
     rw[hdrop] at hsg;rw[hname] at hnm;have hf1:=gw.out.ext hE;have fN:=ah hnm;have zN:=ah hsg;have HS:=ah hS;have HE:=ah hE;have HAB:=ah hab;have HY:=ah hy;have vC:=ah hname;have Fa:=ah hal;have Iu:=ah hf1;clear hnm hsg hS hE hab hy hname hdrop hf1;unfold bC I8 at fN;go_wp2_with fail
     refine fN.out.mono ?_;rintro e w7 ⟨rfl,uM⟩;have hfd:=K2 v l name w7 (Iu.out.ext uM);have Dv:=ah hfd;have xH:=ah uM;clear hfd uM fN;unfold bC at Dv;go_wp2_with fail
     refine Dv.out.mono ?_;rintro e w8 ⟨rfl,bv,rfl,hbv⟩;clear Dv;have hseg:F6 I8 ((y:Int)).toNat=name:=by rw[iw];exact vC.out
     cases hlk:D7 l name with
     | none=>
      have hs0:P8 l ids []=(none,name):=by
       rw[zN.out,dx (by rw[hseg];exact hlk),hseg]
      have hro:=Vp HM.out lY.out hs0;have hfin:Hq l w1 (.returned (.tuple #[.pointer none,.int .i64 7,.string ⟨name.toArray⟩])) w8:=
       ⟨.pointer none,by rw[hro];rfl,r_.out.trans (HE.out.trans xH.out),.inl ⟨by rw[hro],rfl⟩⟩
      have qF:=ah hfin;clear hfin hro hs0 hbv hlk hseg zN HS;go_wp2;go_ret3
      exact qF.out
     | some b=>
      rw[hlk] at hbv;have hbl:=HL.out _ (Ad hlk);have hs1:P8 l ids []=P8 l (ids.drop (k+1)) (acc++[b]):=by
       rw[zN.out,dy (by rw[hseg];exact hlk)]
      have hrr:=b35 bv b w8 hbv hbl;have HRR:=ah hrr;have eh:=ah hs1;have HBV:=ah hbv;have jz:=ah hbl;obtain⟨ba,bc,rfl,hbc⟩:∃ba bc,bv=.slice ba b.length bc/\b.length<=bc:=by obtain⟨ba,bc,e,h1,_⟩:=hbv;exact⟨ba,bc,e,h1⟩
      clear hrr hs1 hbv hbl hlk hseg zN;go_wp2_with fail
      refine HRR.out.mono ?_;rintro e w9 ⟨u,rfl,hrow,vV⟩;obtain⟨ua,uc,rfl⟩:=ownsRow_form hrow;have Js:=HS.out.keep (W':=w9) λq hq=>((xH.out.trans vV).block q hq);have Gs:Ext w5 w9:=HE.out.trans (xH.out.trans vV);have oi:=Gs.size;have Xi:w5.heap.size<=w8.heap.size:=(HE.out.trans xH.out).size;have DR:=O4 hrow Xi;have xc9:=(xH.out.trans vV).cell qV;obtain⟨sa,sc,hsv⟩:=ownsRow_form Js.row;have hrl:rows.length=k:=by rw[Js.len];exact Fa.out
      rw[hrl] at hsv;subst hsv;have hb1:=Js.box;have hown:w9.ownsRow w5.heap.size 54 3 (.slice sa k sc) k (rows.flatMap Qk):=by have:=Js.row;rw[hrl] at this;exact this
      have hod:(w9.drew.alloc (.cells #[.int .i64 y,.slice ua (N7 b).length uc,.int .i64 b.length] 54)).ownsRow w5.heap.size 54 3 (.slice sa k sc) k (rows.flatMap Qk):=World.ownsRow.alloc (w:=w9) hown (.cells #[.int .i64 y,.slice ua (N7 b).length uc,.int .i64 b.length] 54);have m0:=(hb1.cell 1).trans (show _=some (Value.slice sa k sc) from rfl);have mf0:=hb1.free 1;have od:o8 (w9.drew.alloc (.cells #[.int .i64 y,.slice ua (N7 b).length uc,.int .i64 b.length] 54)) w5.heap.size 50 #[.int .u64 gen,.slice sa k sc]:=o8.alloc (w:=w9.drew) hb1 _;have hne:(Value.slice sa k sc).ownBlock≠some w5.heap.size:=G8 hown hb1 (by decide);have hlt0:w5.heap.size<w9.heap.size:=hb1.lt;have eg:=ah Js;have gR:=ah Gs;have HR9:=ah DR;have HBF:=ah od;have KO:=ah hne;have HOW:=ah hown;have Il:=ah hrl;clear Js Gs DR hrow hb1 od hne hown hrl qV vV HRR xH HE HS Iu;go_wp2_with fail
      go_region_law (refine step_append_lies _ (by rfl) _ _ _ (by rfl) w5.heap.size 54 i0 (.agg #[.int .i64 0,.slice none 0 0,.int .i64 0]) 3 40 underlying48 hi0 hz0 hz1 hz2 rfl (by omega) (.slice sa k sc) k _ (by rfl) hod ⟨w9.heap.size,0,none⟩ 1 1 [.int .i64 y,.slice ua (N7 b).length uc,.int .i64 b.length] (by rfl) (by rfl) (World.news_of_block (cs:=#[.int .i64 y,.slice ua (N7 b).length uc,.int .i64 b.length]) (t:=54) (fr:=(0,0)) (heap_alloc_new w9.drew _)) (by simp[Value.oneCell']) (by omega) (by unfold maxLen;omega) (by omega) (by simp;omega) (w9.heap.size+1) (by simp) ?_;intro gg cap6 w6 hown6 hgrow6 jL XG;have hb6:=HBF.out.grown' hgrow6 KO.out;have m6:=(hb6.cell 1).trans (show _=some (Value.slice sa k sc) from rfl);have np:=hb6.free 1;have RS:=ah hb6;have qP:=ah hown6;have qQ:=ah hgrow6;clear hb6 hown6 hgrow6)
      all_goals
       go_wp2;go_roundw
       case rel=>
        have BG:(Value.slice (some ⟨gg,0,none⟩) (k+1) cap6).ownBlock≠some w5.heap.size:=G8 qP.out RS.out (by decide);have hfin:∀q,q<w9.heap.size->(Value.slice sa k sc).ownBlock≠some q->q≠w5.heap.size->(w6.setCell ⟨w5.heap.size,1,none⟩ (.slice (some ⟨gg,0,none⟩) (k+1) cap6)).heap[q]?=w9.heap[q]?:=λq h1 h2 h3=>
         (Below.heap_setCell _ _ _ _ h3).trans ((qQ.out.block q (by simp;omega) (λe=>h2 e.symm)).trans (heap_alloc_old w9.drew _ h1))
        have hrk:∀(n:Nat)(vv:Value)(xs:List Value),w9.ownsRow w5.heap.size 116 5 vv n xs->(w6.setCell ⟨w5.heap.size,1,none⟩ (.slice (some ⟨gg,0,none⟩) (k+1) cap6)).ownsRow w5.heap.size 116 5 vv n xs:=λn vv xs h=>
         iV.row h _ λq hq=>hfin q (World.ownsRow.lt h q hq).2 (zB h HOW.out (by decide) hq) (λe=>G8 h eg.out.box (by decide) (e▸hq))
        refine⟨k+1,acc++[b],rows++[((y:Int),.slice ua (N7 b).length uc,b.length)],_,by go_num,by omega,by rw[aC,Fa.out];rfl,λb' hb'=>?_,eh.out,⟨by simpa using RS.out.set 1 _,?_,?_,λi p hp=>?_⟩,?_⟩
        ·rcases aU.1 hb' with h|h
         ·exact HAB.out b' h
         ·obtain rfl:b'=b:=by simpa using h
          exact jz.out
        ·have:=ownsRow_setCell_other (a:=⟨w5.heap.size,1,none⟩) qP.out BG (.slice (some ⟨gg,0,none⟩) (k+1) cap6);rw[aC,Il.out,dM];simpa [Qk] using this
        ·rw[aC,aC,Il.out,Fa.out];rfl
        ·by_cases hi:i<k
         ·rw[bH (by rw[Il.out];exact hi)] at hp;obtain⟨s1,s2,s3⟩:=eg.out.seg i p hp;have e:(acc++[b]).getD i []=acc.getD i []:=by
           rw[bf,bf,bH (by rw[Fa.out];exact hi)]
          rw[e];exact⟨s1,s2,hrk _ _ _ s3⟩
         ·rw[bF (by rw[Il.out];omega)] at hp;have e0:i - rows.length=0:=by
           rcases dU (i - rows.length) with e|e
           ·exact e
           ·rw[dK (by simp;omega)] at hp;cases hp
          rw[e0] at hp;simp at hp;subst hp;have hik:i=k:=by have:=Il.out;omega
          subst hik;have e:(acc++[b]).getD i []=b:=by
           rw[bf,bF (by rw[Fa.out];exact aj _),Fa.out];simp
          rw[e];refine⟨?_,rfl,hrk _ _ _ HR9.out⟩;rw[bf,au hlt,HY.out];rfl
        ·refine Ext.iJ ?_ (by simp);exact Below.grown ((Ext.trans gR.out (Below.drew (Ext.refl w9))).new (.cells #[.int .i64 y,.slice ua (N7 b).length uc,.int .i64 b.length] 54)) qQ.out (by simp;omega) (λj hj=>(HOW.out.lt j hj).1)
       case measure=>simp[intOf];omega
    ·obtain rfl:k=ids.length:=by omega
     have hst:=hS.new hal (aj _) r_.out.size;have Nk:P8 l ids []=(some acc,[]):=by rw[hsg,List.drop_length];rfl
     have hro:=UH HM.out lY.out Nk;have hfin:Hq l w1 (.returned (.tuple #[.pointer (some ⟨w5.heap.size,0,none⟩),.int .i64 0,.string ⟨#[]⟩])) wr:=by
      refine⟨o7 w5.heap.size,by rw[hro];rfl,r_.out.trans hE,.inr ⟨gen,ids,acc,w5.heap.size,by rw[hro],RI.out,λi=>?_,rfl,r_.out.size,hst⟩⟩;rw[bf]
      cases e:acc[i]? with
      | none=>simp
      | some b=>exact hab b (aJ e)
     have qF:=ah hfin;clear hfin hst hsg Nk hro hS hE hab;go_wp2;go_ret3
     exact qF.out
end
section
open Go.RowKit Go.Lib Go.Maps Dk Pl
theorem R7(p:Nat×Rec):(Ho p).length=5:=rfl
theorem Zw{γ:Type}{f:γ->List Value}{N:Nat}(hf:∀x,(f x).length=N){w:World}{e:TypeId}{v:Value}{l:List γ}(h:oG w e N v l.length (l.flatMap f)){k:Nat}{t:γ}(hk:l[k]?=some t):
 ∃g cap,v=.slice (some ⟨g,0,none⟩) l.length cap/\l.length<=cap/\cap<=maxLen/\g<w.heap.size/\∀c x,(f t)[c]?=some x->w.cell? ⟨g,k*N+c,none⟩=some x:=by
 have hkl:k<l.length:=(aT.1 hk).1;rcases h.2 with⟨_,h0⟩|⟨g,cap,cur,fr,rfl,hg,h1,h2,h3,h4⟩
 ·omega
 ·refine⟨g,cap,rfl,h1,h2,lt_of_block hg,λc x hx=>?_⟩;have hc:c<N:=by
   have:=(aT.1 hx).1;rw[hf] at this;exact this
  have e1:=rS f hf l k t hk c hc;rw[hx] at e1;have hlt:k*N+c<l.length*N:=by
   have:(k+1)*N<=l.length*N:=h_ _ hkl;rw[kZ] at this;omega
  rw[<-h4,dA,if_pos hlt] at e1;simp only[World.cell?,hg];simpa using e1
theorem oG.cap{w:World}{e:TypeId}{size:Nat}{v:Value}{n:Nat}{xs:List Value}(h:oG w e size v n xs):n<=maxLen:=by
 rcases h.2 with⟨_,h0⟩|⟨g,cap,cur,fr,_,_,h1,h2,_⟩
 ·omega
 ·omega
def Ql(dL:List (List (Nat×Rec)))(i k:Nat)(key:Nm)(j m:Nat):Prop:=∀(j' m':Nat)(q:Nat×Rec),(dL.getD j' [])[m']?=some q->(i<j'\/(j'=i/\k<m'))->(j'<j\/(j'=j/\m'<m))->q.2.key≠key
theorem Ql.start(dL:List (List (Nat×Rec)))(i k:Nat)(key:Nm):Ql dL i k key i 0:=λj' m' q _ h1 h2=>by omega
theorem Ql.seg{dL:List (List (Nat×Rec))}{i k:Nat}{key:Nm}{j:Nat}(h:Ql dL i k key j (dL.getD j []).length):Ql dL i k key (j+1) 0:=by
 intro j' m' q h1 h2 h3;have hm:=(aT.1 h1).1;refine h j' m' q h1 h2 ?_;by_cases e:j'=j
 ·subst e;exact .inr ⟨rfl,hm⟩
 ·omega
end
section
open Go.RowKit Go.Lib Go.Maps Dk Pl
theorem Z4(p:Nm×Nm):(G5 p).length=2:=rfl
theorem b8O:(prog.info? 60).map (λi=>(i.zero,i.size,i.bytes))=some (some (.agg #[.string ⟨#[]⟩,.string ⟨#[]⟩]),2,32):=by kernel_rfl
abbrev mf(r:Rec):Value:=.agg #[.int .u64 r.seq,.string ⟨r.key.toArray⟩,.string ⟨r.val.toArray⟩,.bool r.del,.int .i64 r.size]
structure q9(wx:World)(l:List (Nm×Nm))(r:Rec)(u:Value)(done:Bool)(n:Nat)(acc:List (Nm×Nm))(wr:World):Prop where
 le:n<=l.length
 len:acc.length<=n+(if done then 1 else 0)
 res:rO l r=acc++oD r (l.drop n) done
 row:wr.ownsRow wx.heap.size 60 2 u acc.length (acc.flatMap G5)
 ext:Ext wx wr
theorem Qx(w:World)(n:Nat)(o:Obj):((w.drewN n).alloc o).heap[w.heap.size]?=some o:=by
 have:=heap_alloc_new (w.drewN n) o;have e:(w.drewN n).heap.size=w.heap.size:=by simp
 rwa [e] at this
theorem put_any(v:Value)(l:List (Nm×Nm))(r:Rec)(w:World)(h:oG w 60 2 v l.length (l.flatMap G5))(hl:l.length<=4000000000000):
 Calls prog 70 #[v,mf r] w λe w'=>∃u,e=.returned u/\w'.ownsRow w.heap.size 60 2 u (rO l r).length ((rO l r).flatMap G5)/\Ext w w':=by
 obtain⟨i0,hi,hz0,hz1,hz2⟩:=info_parts b8O;obtain⟨va,vc,rfl⟩:=h.slice;have hcap:=h.cap;obtain⟨n,hnn⟩:∃n,l.length=n:=⟨_,rfl⟩;have hX:o8 (w.alloc (.cells #[.int .u64 r.seq,.string ⟨r.key.toArray⟩,.string ⟨r.val.toArray⟩,.bool r.del,.int .i64 r.size] 116)) w.heap.size 116 #[.int .u64 r.seq,.string ⟨r.key.toArray⟩,.string ⟨r.val.toArray⟩,.bool r.del,.int .i64 r.size]:=o8.new _ _ rfl;have hE0:Ext w (w.alloc (.cells #[.int .u64 r.seq,.string ⟨r.key.toArray⟩,.string ⟨r.val.toArray⟩,.bool r.del,.int .i64 r.size] 116)):=(Ext.refl w).new _;obtain⟨wx,hwx⟩:∃wx,w.alloc (.cells #[.int .u64 r.seq,.string ⟨r.key.toArray⟩,.string ⟨r.val.toArray⟩,.bool r.del,.int .i64 r.size] 116)=wx:=⟨_,rfl⟩;have x1:=(hX.cell 1).trans (show _=some (Value.string ⟨r.key.toArray⟩) from rfl);have x2:=(hX.cell 2).trans (show _=some (Value.string ⟨r.val.toArray⟩) from rfl);have x3:=(hX.cell 3).trans (show _=some (Value.bool r.del) from rfl);have hxs:wx.heap.size=w.heap.size+1:=by rw[<-hwx];simp
 rw[hwx] at x1 x2 x3 hE0;obtain⟨K,hK⟩:∃K,r.key=K:=⟨_,rfl⟩;obtain⟨V,hV⟩:∃V,r.val=V:=⟨_,rfl⟩;obtain⟨dl,hdl⟩:∃dl,r.del=dl:=⟨_,rfl⟩;rw[hK] at x1;rw[hV] at x2;rw[hdl] at x3;have H:=ah h;have Dw:=ah hE0;have HW:=ah hwx;have HK:=ah hK;have HV:=ah hV;have HD:=ah hdl;have HN:=ah hnn;have HXS:=ah hxs;rw[hnn] at hl;have hst:q9 wx l r (.slice none 0 0) r.del 0 [] wx:=⟨by omega,by simp,rfl,⟨rfl,Or.inl ⟨rfl,rfl⟩⟩,Ext.refl wx⟩;have HST:=ah hst;have hcv:n<=vc/\vc<=9223372036854775807:=by
  rcases h.2 with⟨e,h0⟩|⟨g,cap,cur,fr,e,_,h1,h2,_⟩
  ·injection e with e1 e2 e3;subst e3;omega
  ·injection e with e1 e2 e3;subst e3;unfold maxLen at h2;omega
 rw[hnn] at hcap⊢;clear h hE0 hwx hK hV hdl hnn hX hst hxs;go_enter func70,ntmps70
 go_wp2_with fail
 rw[HW.out];go_loopw [5,6,7] (λu dn i wr=>∃(k:Nat)(done:Bool)(acc:List (Nm×Nm)),dn=.bool done/\i=.int .i64 k/\q9 wx l r u done k acc wr) (λ_ _ i _=>n - (intOf i).toNat)
 case atStart=>exact⟨0,r.del,[],rfl,rfl,HST.out⟩
 case round=>
  obtain⟨k,done,acc,rfl,rfl,hI⟩:=hrel;obtain⟨ua,uc,rfl⟩:=ownsRow_form hI.row;have hkn:k<=n:=by have:=hI.le;rw[HN.out] at this;exact this
  have y1:=hI.ext.cell x1;have y2:=hI.ext.cell x2;have hlen:=hI.len;have hlen2:acc.length<=k+1:=by split at hlen<;>omega
  have hlen3:done=false->acc.length<=k:=λh=>by rw[h] at hlen;simpa using hlen
  clear hlen;have hwx:w.heap.size<=wx.heap.size:=by have:=HXS.out;omega
  have hown:∀wz,Ext wr wz->wz.ownsRow wx.heap.size 60 2 (.slice ua acc.length uc) acc.length (acc.flatMap G5):=λwz hz=>iV.row hI.row wz λb hb=>hz.block b (World.ownsRow.lt hI.row b hb).2;have HOW:=ah hown;have HI:=ah hI;clear hown hI;by_cases hlt:k<n
  ·have hkl:k<l.length:=by rw[HN.out];exact hlt
   have hp:l[k]?=some l[k]:=au hkl;obtain⟨P,hP⟩:∃P,l[k]=P:=⟨_,rfl⟩;rw[hP] at hp;obtain⟨g,cap,e,-,-,hgl,hcells⟩:=Zw Z4 (H.out.keep λb hb=>Dw.out.block b (H.out.lt hb)) hp;injection e with e1 e2 e3;subst e1;subst e3;have q0:=hcells 0 _ rfl;have q1:=hcells 1 _ rfl;rw[jw] at q0;have r0:=HI.out.ext.cell q0;have r1:=HI.out.ext.cell q1;have hki:(k:Int)<(n:Int):=by omega
   have hdrop:l.drop k=P::l.drop (k+1):=by
    rw[gY hkl,hP]
   have hres:=HI.out.res;rw[hdrop,oD,HK.out,HV.out] at hres;obtain⟨lb,hlb⟩:∃lb,Op.bytesLess P.1 K=lb:=⟨_,rfl⟩;rw[hlb] at hres;have Dj:=ah hres;clear hres hcells hdrop hp hP;by_cases hkey:P.1=K
   ·have hx:(P.1==K)=true:=dP.2 hkey;have hre:=Dj.out;rw[if_pos hkey] at hre;clear hkey Dj
    cases done with
    | true=>
     have vw:=ah hre;clear hre hlb;go_wp2_with fail
     go_quiet (fail)
     go_wp2_with fail
     go_quiet (fail)
     go_wp2;go_roundw
     case rel=>
      refine⟨k+1,true,acc,rfl,by go_num,by omega,by first|(simp;omega)|(simp;exact hlen2)|omega,?_,?_,?_⟩
      ·have:=vw.out;simpa using this
      ·exact HOW.out _ (Ext.drewN _ _)
      ·exact HI.out.ext.trans (Ext.drewN _ _)
     case measure=>simp[intOf];omega
    | false=>
     have DU:=hlen3 rfl
     cases lb with
     | true=>
      have vw:=ah hre;clear hre;go_wp2_with fail
      go_quiet (fail)
      go_wp2_with fail
      go_quiet (fail)
      go_wp2;go_roundw
      case rel=>
       refine⟨k+1,false,acc,rfl,by go_num,by omega,by first|(simp;omega)|(simp;exact hlen2)|omega,?_,?_,?_⟩
       ·have:=vw.out;simpa using this
       ·exact HOW.out _ (Ext.drewN _ _)
       ·exact HI.out.ext.trans (Ext.drewN _ _)
      case measure=>simp[intOf];omega
     | false=>
      have vw:=ah hre;clear hre;go_wp2_with fail
      go_quiet (fail)
      go_wp2_with (at_builtin;go_must (refine D8 rfl _ _ 46 rfl wx.heap.size 60 i0 (.agg #[.string ⟨#[]⟩,.string ⟨#[]⟩]) 2 32 underlying46 hi hz0 hz1 hz2 rfl (by omega) (.slice ua acc.length uc) acc.length _ rfl (World.ownsRow.alloc (HOW.out _ (Ext.drewN _ _)) (.cells #[.string ⟨K.toArray⟩,.string ⟨V.toArray⟩] 60)) (.slice (some ⟨_,0,none⟩) 1 1) 1 [.string ⟨K.toArray⟩,.string ⟨V.toArray⟩] rfl ⟨_,_,rfl,by omega,⟨by omega,λh=>by cases h⟩,λ_=>⟨_,rfl,World.news_of_block (cs:=#[.string ⟨K.toArray⟩,.string ⟨V.toArray⟩]) (t:=60) (fr:=(0,0)) (Qx _ _ _)⟩⟩ rfl (by simp[Value.oneCell']) (by unfold maxLen;omega) (by omega) (((HI.out.ext).trans (Ext.drewN _ _)).new _).size ?_);intro b6 c6 w6 hown6 hgrow6 jL;have ni:Ext wx w6:=Below.grown (((HI.out.ext).trans (Ext.drewN _ _)).new _) hgrow6 (((HI.out.ext).trans (Ext.drewN _ _)).new _).size (λj hj=>(World.ownsRow.lt (HOW.out _ (Ext.refl _)) j hj).1);have qP:=ah hown6;have qU:=ah ni;clear hown6 hgrow6 jL)
      have z1:=qU.out.cell x1;have z2:=qU.out.cell x2;have p0:=qU.out.cell q0;have p1:=qU.out.cell q1;have hw6:∀wz,Ext w6 wz->wz.ownsRow wx.heap.size 60 2 (.slice b6 (acc.length+1) c6) (acc.length+1) ((acc++[(K,V)]).flatMap G5):=λwz hz=>by
       have:=iV.row qP.out wz λb hb=>hz.block b (World.ownsRow.lt qP.out b hb).2;rw[dM];simpa [G5] using this
      have VJ:=ah hw6;clear hw6 ni;go_wp2_with fail
      go_quiet (fail)
      go_wp2;go_roundw
      case rel=>
       refine⟨k+1,true,(acc++[(K,V)]),rfl,by go_num,by omega,by first|(simp;omega)|(simp;exact hlen2)|omega,?_,?_,?_⟩
       ·have:=vw.out;simpa using this
       ·rw[aC];exact VJ.out _ (Ext.drewN _ _)
       ·exact qU.out.trans (Ext.drewN _ _)
      case measure=>simp[intOf];omega
   ·have hx:(P.1==K)=false:=bn.2 hkey;have hre:=Dj.out;rw[if_neg hkey] at hre;clear hkey Dj
    cases done with
    | true=>
     have vw:=ah hre;clear hre hlb;go_wp2_with fail
     go_quiet (fail)
     go_wp2_with fail
     go_quiet (fail)
     go_wp2_with (at_builtin;go_must (refine D8 rfl _ _ 46 rfl wx.heap.size 60 i0 (.agg #[.string ⟨#[]⟩,.string ⟨#[]⟩]) 2 32 underlying46 hi hz0 hz1 hz2 rfl (by omega) (.slice ua acc.length uc) acc.length _ rfl (World.ownsRow.alloc (HOW.out _ (Ext.drewN _ _)) (.cells #[.string ⟨P.1.toArray⟩,.string ⟨P.2.toArray⟩] 60)) (.slice (some ⟨_,0,none⟩) 1 1) 1 [.string ⟨P.1.toArray⟩,.string ⟨P.2.toArray⟩] rfl ⟨_,_,rfl,by omega,⟨by omega,λh=>by cases h⟩,λ_=>⟨_,rfl,World.news_of_block (cs:=#[.string ⟨P.1.toArray⟩,.string ⟨P.2.toArray⟩]) (t:=60) (fr:=(0,0)) (Qx _ _ _)⟩⟩ rfl (by simp[Value.oneCell']) (by unfold maxLen;omega) (by omega) ((HI.out.ext.trans (Ext.drewN _ _)).new _).size ?_);intro b7 c7 w7 jf iG yG;have uM:Ext wx w7:=Below.grown ((HI.out.ext.trans (Ext.drewN _ _)).new _) iG ((HI.out.ext.trans (Ext.drewN _ _)).new _).size (λj hj=>(World.ownsRow.lt (HOW.out _ (Ext.refl _)) j hj).1);have Iq:=ah jf;have xH:=ah uM;clear jf iG yG)
     go_roundw
     case rel=>
      refine⟨k+1,true,acc++[P],rfl,by go_num,by omega,by first|(simp;omega)|(simp;exact hlen2)|omega,?_,?_,xH.out⟩
      ·have:=vw.out;simpa using this
      ·have:=Iq.out;rw[dM];simpa [G5] using this
     case measure=>simp[intOf];omega
    | false=>
     have DU:=hlen3 rfl
     cases lb with
     | true=>
      have vw:=ah hre;clear hre;go_wp2_with fail
      go_quiet (fail)
      go_wp2_with fail
      go_quiet (fail)
      go_wp2_with (at_builtin;go_must (refine D8 rfl _ _ 46 rfl wx.heap.size 60 i0 (.agg #[.string ⟨#[]⟩,.string ⟨#[]⟩]) 2 32 underlying46 hi hz0 hz1 hz2 rfl (by omega) (.slice ua acc.length uc) acc.length _ rfl (World.ownsRow.alloc (HOW.out _ (Ext.drewN _ _)) (.cells #[.string ⟨P.1.toArray⟩,.string ⟨P.2.toArray⟩] 60)) (.slice (some ⟨_,0,none⟩) 1 1) 1 [.string ⟨P.1.toArray⟩,.string ⟨P.2.toArray⟩] rfl ⟨_,_,rfl,by omega,⟨by omega,λh=>by cases h⟩,λ_=>⟨_,rfl,World.news_of_block (cs:=#[.string ⟨P.1.toArray⟩,.string ⟨P.2.toArray⟩]) (t:=60) (fr:=(0,0)) (Qx _ _ _)⟩⟩ rfl (by simp[Value.oneCell']) (by unfold maxLen;omega) (by omega) ((HI.out.ext.trans (Ext.drewN _ _)).new _).size ?_);intro b7 c7 w7 jf iG yG;have uM:Ext wx w7:=Below.grown ((HI.out.ext.trans (Ext.drewN _ _)).new _) iG ((HI.out.ext.trans (Ext.drewN _ _)).new _).size (λj hj=>(World.ownsRow.lt (HOW.out _ (Ext.refl _)) j hj).1);have Iq:=ah jf;have xH:=ah uM;clear jf iG yG)
      go_roundw
      case rel=>
       refine⟨k+1,false,acc++[P],rfl,by go_num,by omega,by first|(simp;omega)|(simp;exact hlen2)|omega,?_,?_,xH.out⟩
       ·have:=vw.out;simpa using this
       ·have:=Iq.out;rw[dM];simpa [G5] using this
      case measure=>simp[intOf];omega
     | false=>
      have vw:=ah hre;clear hre;go_wp2_with fail
      go_quiet (fail)
      go_wp2_with (at_builtin;go_must (refine D8 rfl _ _ 46 rfl wx.heap.size 60 i0 (.agg #[.string ⟨#[]⟩,.string ⟨#[]⟩]) 2 32 underlying46 hi hz0 hz1 hz2 rfl (by omega) (.slice ua acc.length uc) acc.length _ rfl (World.ownsRow.alloc (HOW.out _ (Ext.drewN _ _)) (.cells #[.string ⟨K.toArray⟩,.string ⟨V.toArray⟩] 60)) (.slice (some ⟨_,0,none⟩) 1 1) 1 [.string ⟨K.toArray⟩,.string ⟨V.toArray⟩] rfl ⟨_,_,rfl,by omega,⟨by omega,λh=>by cases h⟩,λ_=>⟨_,rfl,World.news_of_block (cs:=#[.string ⟨K.toArray⟩,.string ⟨V.toArray⟩]) (t:=60) (fr:=(0,0)) (Qx _ _ _)⟩⟩ rfl (by simp[Value.oneCell']) (by unfold maxLen;omega) (by omega) (((HI.out.ext).trans (Ext.drewN _ _)).new _).size ?_);intro b6 c6 w6 hown6 hgrow6 jL;have ni:Ext wx w6:=Below.grown (((HI.out.ext).trans (Ext.drewN _ _)).new _) hgrow6 (((HI.out.ext).trans (Ext.drewN _ _)).new _).size (λj hj=>(World.ownsRow.lt (HOW.out _ (Ext.refl _)) j hj).1);have qP:=ah hown6;have qU:=ah ni;clear hown6 hgrow6 jL)
      have z1:=qU.out.cell x1;have z2:=qU.out.cell x2;have p0:=qU.out.cell q0;have p1:=qU.out.cell q1;have hw6:∀wz,Ext w6 wz->wz.ownsRow wx.heap.size 60 2 (.slice b6 (acc.length+1) c6) (acc.length+1) ((acc++[(K,V)]).flatMap G5):=λwz hz=>by
       have:=iV.row qP.out wz λb hb=>hz.block b (World.ownsRow.lt qP.out b hb).2;rw[dM];simpa [G5] using this
      have VJ:=ah hw6;clear hw6 ni;go_wp2_with fail
      go_quiet (fail)
      go_wp2_with (at_builtin;go_must (refine D8 rfl _ _ 46 rfl wx.heap.size 60 i0 (.agg #[.string ⟨#[]⟩,.string ⟨#[]⟩]) 2 32 underlying46 hi hz0 hz1 hz2 rfl (by omega) (.slice b6 (acc.length+1) c6) (acc.length+1) _ rfl (World.ownsRow.alloc (VJ.out _ (Ext.drewN _ _)) (.cells #[.string ⟨P.1.toArray⟩,.string ⟨P.2.toArray⟩] 60)) (.slice (some ⟨_,0,none⟩) 1 1) 1 [.string ⟨P.1.toArray⟩,.string ⟨P.2.toArray⟩] rfl ⟨_,_,rfl,by omega,⟨by omega,λh=>by cases h⟩,λ_=>⟨_,rfl,World.news_of_block (cs:=#[.string ⟨P.1.toArray⟩,.string ⟨P.2.toArray⟩]) (t:=60) (fr:=(0,0)) (Qx _ _ _)⟩⟩ rfl (by simp[Value.oneCell']) (by unfold maxLen;omega) (by omega) (((qU.out).trans (Ext.drewN _ _)).new _).size ?_);intro b7 c7 w7 jf iG yG;have uM:Ext wx w7:=Below.grown (((qU.out).trans (Ext.drewN _ _)).new _) iG (((qU.out).trans (Ext.drewN _ _)).new _).size (λj hj=>(World.ownsRow.lt (VJ.out _ (Ext.refl _)) j hj).1);have Iq:=ah jf;have xH:=ah uM;clear jf iG yG)
      go_roundw
      case rel=>
       refine⟨k+1,true,(acc++[(K,V)])++[P],rfl,by go_num,by omega,by first|(simp;omega)|(simp;exact hlen2)|omega,?_,?_,xH.out⟩
       ·have:=vw.out;simpa using this
       ·have:=Iq.out;rw[dM];simpa [G5] using this
      case measure=>simp[intOf];omega
  ·obtain rfl:k=n:=by omega
   have hres:=HI.out.res;rw[List.drop_eq_nil_of_le (by rw[HN.out];exact aj _),oD,HK.out,HV.out] at hres;have vw:=ah hres;clear hres
   cases done with
   | true=>
    have hfin:wr.ownsRow w.heap.size 60 2 (.slice ua acc.length uc) (rO l r).length ((rO l r).flatMap G5)/\Ext w wr:=by
     have e:=vw.out;simp at e;rw[e];exact⟨O4 (HOW.out wr (Ext.refl wr)) (by omega),Dw.out.trans HI.out.ext⟩
    have HF:=ah hfin;clear hfin;go_wp2_with fail
    go_ret
    exact⟨_,rfl,HF.out⟩
   | false=>
    have DU:=hlen3 rfl;have e:=vw.out;simp at e;have qR:=ah e;clear e;go_wp2_with (at_builtin;go_must (refine D8 rfl _ _ 46 rfl wx.heap.size 60 i0 (.agg #[.string ⟨#[]⟩,.string ⟨#[]⟩]) 2 32 underlying46 hi hz0 hz1 hz2 rfl (by omega) (.slice ua acc.length uc) acc.length _ rfl (World.ownsRow.alloc (HOW.out _ (Ext.refl _)) (.cells #[.string ⟨K.toArray⟩,.string ⟨V.toArray⟩] 60)) (.slice (some ⟨_,0,none⟩) 1 1) 1 [.string ⟨K.toArray⟩,.string ⟨V.toArray⟩] rfl ⟨_,_,rfl,by omega,⟨by omega,λh=>by cases h⟩,λ_=>⟨_,rfl,World.news_of_block (cs:=#[.string ⟨K.toArray⟩,.string ⟨V.toArray⟩]) (t:=60) (fr:=(0,0)) (heap_alloc_new _ _)⟩⟩ rfl (by simp[Value.oneCell']) (by unfold maxLen;omega) (by omega) ((HI.out.ext).new _).size ?_);intro b6 c6 w6 hown6 hgrow6 jL;have ni:Ext wx w6:=Below.grown ((HI.out.ext).new _) hgrow6 ((HI.out.ext).new _).size (λj hj=>(World.ownsRow.lt (HOW.out _ (Ext.refl _)) j hj).1);have qP:=ah hown6;have qU:=ah ni;clear hown6 hgrow6 jL)
    go_ret;have hfin:=qP.out;refine⟨_,rfl,?_,Dw.out.trans qU.out⟩;rw[qR.out,aC,dM];simpa [G5] using O4 hfin (by omega)
end
section
open Go.RowKit Go.Lib Go.Maps Dk Pl
theorem GP{l:List UInt8}(h:l.length<=1099511627776):17*(N7 l).length<=1099511627776:=by
 have h1:=b3m l;have h2:∀(L:List (Nat×Rec)),(∀p∈L,17<=p.2.size)->17*L.length<=sizes L:=by
  intro L
  induction L with
  | nil=>intro _;simp[sizes]
  | cons p L ih=>
   intro hL;have:=ih λq hq=>hL q (dR _ hq);have:=hL p (iL ..);unfold sizes at *;simp;omega
 have:=h2 _ (b7x l);omega
theorem Nn(rb gen:Nat)(ids:List Int)(bss:List (List UInt8))(w:World)(h:wK w rb gen ids bss)(hn:ids.length<=60)(hl:∀i,(bss.getD i []).length<=1099511627776):
 Calls prog 19 #[o7 rb] w λe w'=>∃u,e=.returned u/\w'.ownsRow w.heap.size 60 2 u (Y4 (D5 bss)).length ((Y4 (D5 bss)).flatMap G5)/\Ext w w':=by
 obtain⟨n,hnn⟩:∃n,ids.length=n:=⟨_,rfl⟩;obtain⟨sa,sc,hb,hsc,hsc2,hbl,lq⟩:=id h;rw[hnn] at hb hsc hbl lq hn;have hsl:(D5 bss).length=n:=by unfold D5;rw[b_];exact hbl
 have hfew:∀i,17*((D5 bss).getD i []).length<=1099511627776:=by
  intro i;rcases aX i bss.length with hi|hi
  ·rw[U_ bss i hi];exact GP (hl i)
  ·rw[bf,dK (by rw[hsl];omega)];simp
 have hal:∀i m,i<n->m<=((D5 bss).getD i []).length->(S9 (ahead (D5 bss) i m)).length<=4000000000000:=by
  intro i m hi hm;have h1:=GQ hfew i m (by omega) hm;have h2:=R9 (ahead (D5 bss) i m);have h3:(i+1)*1099511627776<=60*1099511627776:=h_ _ (by omega);omega
 have b1:=(hb.cell 1).trans (show _=some (Value.slice sa n sc) from rfl);have H:=ah h;have zN:=ah lq;have fw:=ah hl;have jz:=ah hbl;have HSL:=ah hsl;have Fa:=ah hal;clear h lq hl hnn hbl hb hfew hsl hal;unfold o7;go_enter func19,ntmps19
 go_wp2;go_loopw [3,4] (λu i wr=>∃k:Nat,i=.int .i64 k/\k<=n/\wr.ownsRow w.heap.size 60 2 u (S9 (ahead (D5 bss) k 0)).length ((S9 (ahead (D5 bss) k 0)).flatMap G5)/\Ext w wr) (λ_ i _=>n - (intOf i).toNat)
 case atStart=>exact⟨0,rfl,by omega,⟨rfl,Or.inl ⟨rfl,rfl⟩⟩,Ext.refl w⟩
 case round=>
  obtain⟨k,rfl,hk,hown,hE⟩:=hrel;obtain⟨ly,lx,rfl⟩:=ownsRow_form hown;have b1r:=hE.cell b1;by_cases hlt:k<n
  ·obtain⟨g,rfl,s0,-,u,s1,hrow⟩:=zN.out k hlt;obtain⟨ua,uc,rfl⟩:=hrow.slice;have hcp:=hrow.cap;have s1':=hE.cell s1;have hki:(k:Int)<(n:Int):=by omega
   have hseg:=U_ bss k (by have:=jz.out;omega);have BM:=λm hm=>Fa.out k m hlt hm;rw[hseg] at BM;obtain⟨L,hL⟩:∃L,N7 (bss.getD k [])=L:=⟨_,rfl⟩;rw[hL] at hrow s1' hcp hseg BM;unfold maxLen at hcp;have ee:=ah hseg;have HA:=ah BM;have HR:=ah hrow;have HE:=ah hE;have HO:=ah hown;clear hseg BM hrow hE hown s0 s1 hL;go_wp2_with fail
   go_loopw [3,5] (λu j wi=>∃m:Nat,j=.int .i64 m/\m<=L.length/\wi.ownsRow w.heap.size 60 2 u (S9 (ahead (D5 bss) k m)).length ((S9 (ahead (D5 bss) k m)).flatMap G5)/\Ext wr wi) (λ_ j _=>L.length - (intOf j).toNat)
   case atStart=>exact⟨0,rfl,by omega,HO.out,Ext.refl wr⟩
   case round=>
    rename World=>wi
    obtain⟨m,rfl,hm,rG,hEi⟩:=hrel;obtain⟨li,lh,rfl⟩:=ownsRow_form rG;have b1i:=hEi.cell b1r;have s1i:=hEi.cell s1';by_cases hml:m<L.length
    ·have hp:L[m]?=some L[m]:=au hml;obtain⟨P,hP⟩:∃P,L[m]=P:=⟨_,rfl⟩;rw[hP] at hp;obtain⟨gr,cap,hu,hcap,hcap2,hgl,hcells⟩:=Zw R7 (HR.out.keep λb hb=>(HE.out.trans hEi).block b (HR.out.lt hb)) hp;injection hu with h1 h2 h3;subst h1;subst h3;have nF:(m:Int)<(L.length:Int):=by omega
     have q0:=hcells 0 _ rfl;have q1:=hcells 1 _ rfl;have q2:=hcells 2 _ rfl;have q3:=hcells 3 _ rfl;have q4:=hcells 4 _ rfl;rw[jw] at q0;have hnx:=b5P (dL:=D5 bss) (i:=k) (m:=m) (q:=P) (by rw[ee.out];exact hp);have hput:=put_any _ _ P.2 wi (xT rG) (HA.out m hm);have HP:=ah hput;have fL:=ah hnx;have HEI:=ah hEi;have hsz:w.heap.size<=wi.heap.size:=(HE.out.trans hEi).size;clear hput hnx hEi hcells hp hP rG;go_wp2_with fail
     refine HP.out.mono ?_;rintro e w2 ⟨u2,rfl,hown2,hE2⟩;have hfin:w2.ownsRow w.heap.size 60 2 u2 (S9 (ahead (D5 bss) k (m+1))).length ((S9 (ahead (D5 bss) k (m+1))).flatMap G5)/\Ext wr w2:=by
      rw[fL.out,b2G];exact⟨O4 hown2 hsz,HEI.out.trans hE2⟩
     have HF:=ah hfin;clear hfin hown2 hE2;go_wp2_with fail
     go_roundw
     case rel=>exact⟨m+1,by go_num,by omega,HF.out⟩
     case measure=>simp[intOf];omega
    ·obtain rfl:m=L.length:=by omega
     have hfin:wi.ownsRow w.heap.size 60 2 (.slice li (S9 (ahead (D5 bss) k L.length)).length lh) (S9 (ahead (D5 bss) (k+1) 0)).length ((S9 (ahead (D5 bss) (k+1) 0)).flatMap G5)/\Ext w wi:=by
      have e:=G0 (dL:=D5 bss) (i:=k) (by rw[HSL.out];exact hlt);rw[ee.out] at e;rw[<-e];exact⟨rG,HE.out.trans hEi⟩
     have HF:=ah hfin;clear hfin rG hEi;go_wp2_with fail
     go_roundw
     case rel=>exact⟨k+1,by go_num,by omega,HF.out⟩
     case measure=>simp[intOf];omega
  ·obtain rfl:k=n:=by omega
   have hfin:wr.ownsRow w.heap.size 60 2 (.slice ly (S9 (ahead (D5 bss) k 0)).length lx) (Y4 (D5 bss)).length ((Y4 (D5 bss)).flatMap G5)/\Ext w wr:=by
    have e:=GW (D5 bss);rw[HSL.out] at e;unfold Y4;rw[<-e];exact⟨hown,hE⟩
   have HF:=ah hfin;clear hfin hown hE;go_wp2_with fail
   exact bodyPost_ret (v:=.slice ly (S9 (ahead (D5 bss) k 0)).length lx) (by simp[results,results19]) rfl ⟨_,rfl,HF.out⟩
end
section
open Go.RowKit Go.Lib Go.Maps Dk Pl
theorem b5E{M:List (Nm×Nm)}(hnd:(M.map (·.1)).Nodup){k:Nat}{p:Nm×Nm}(hp:M[k]?=some p)(key:Nm):valOf (M.take (k+1)) key=if p.1=key then(p.2,true) else valOf (M.take k) key:=by
 have e:M.take (k+1)=M.take k++[p]:=by rw[dW,hp];rfl
 by_cases h:p.1=key
 ·rw[if_pos h];have h1:(M.take (k+1))[k]?=some p:=by rw[mY (by omega)];exact hp
  unfold valOf;rw[<-h,Af (hnd.sublist ((wU _ _).map _)) h1]
 ·rw[if_neg h];unfold valOf;rw[e];unfold D7;rw[List.find?_append];simp[h]
theorem G2{F:Nat->Prop}{a sb gen B uc:Nat}{D:D}{ids:List Int}{bss:List (List UInt8)}{w:World}{ua:Option Addr}{M:List (Nm×Nm)}(h:qw w F a sb gen D ids bss)(hM:Y4 (D5 bss)=M)(hrow:w.ownsRow B 60 2 (.slice ua M.length uc) M.length (M.flatMap G5)){key:Nm}(hk:key.length<=maxLen):
 ∀c,Tryz.f30.body=some c->c.wp prog (bodyPost prog Tryz.f30 λe w'=>e=.returned (.bool true)/\Ext w w') ⟨#[o7 sb,.slice ua M.length uc,bC key]++Array.replicate (Tryz.f30.ntmps - 3) undef,[]⟩ w:=by
 have hnd:(M.map (·.1)).Nodup:=(ig.2 (hM▸QN _)).imp (R:=λa b:Nm=>a<b) λh e=>by rw[e] at h;exact absurd h kF
 have hget:=aM h hk;unfold GX at hget;rw[hM] at hget;obtain⟨n,hn⟩:∃n,M.length=n:=⟨_,rfl⟩;have hn2:n<=9223372036854775807:=by
  rcases hrow.2 with⟨_,h⟩|⟨g,cap,cur,hv,_,_,h1,h2,_⟩
  ·omega
  ·unfold maxLen at h2;omega
 have HG:=ah hget;have HO:=ah h;have qE:=ah hrow;have VT:=ah hnd;have HN:=ah hn;clear h hM hget hrow hnd;rw[hn];clear hn;unfold o7 bC at *;intro c hc;obtain rfl:=aF hc;clear hc;simp only[ntmps30,Nat.reduceSub,eu,dZ,fF,eU,cO,List.cons_append];go_wp2_with fail
 refine HG.out.mono ?_;rintro e w1 ⟨rfl,hE1⟩;have htl:=Qs .ok .nilIface w1 rfl (HO.out.ext hE1).La.get;have e3:Er.ok.code=0:=rfl;have e4:Er.ok.name=[]:=rfl;rw[e3,e4] at htl;have rZ:=ah htl;have lV:=ah hE1;clear htl hE1 e3 e4 HG;unfold bC at rZ;go_wp2_with fail
 refine rZ.out.mono ?_;rintro e w2 ⟨rfl,hE2⟩;have HE2:=ah (lV.out.trans hE2);clear rZ hE2 lV;obtain⟨V,hV⟩:∃V,valOf M key=V:=⟨_,rfl⟩;have HV:=ah hV;rw[hV];clear hV;go_wp2_with fail
 go_loopw [12,13,14] (λx y i wr=>∃k:Nat,i=.int .i64 k/\k<=n/\x=.string ⟨(valOf (M.take k) key).1.toArray⟩/\y=.bool (valOf (M.take k) key).2/\wr=w2) (λ_ _ i _=>n - (intOf i).toNat)
 case atStart=>exact⟨0,rfl,by omega,rfl,rfl,rfl⟩
 case round=>
  obtain⟨k,rfl,hkn,rfl,rfl,rfl⟩:=hrel;by_cases hlt:k<n
  ·obtain⟨p,hp⟩:∃p,M[k]?=some p:=⟨_,au (by rw[HN.out];exact hlt)⟩;have hstep:=b5E VT.out hp key;obtain⟨g,cap,e1,l1,-,-,q⟩:=Hr Z4 (iV.row qE.out wr λb hb=>HE2.out.block b (World.ownsRow.lt qE.out b hb).2) hp;rw[HN.out] at e1 l1;injection e1 with e1 _ e3;subst e1;subst e3;have x0:=q 0 _ rfl;have x1:=q 1 _ rfl;rw[jw] at x0;have hki:(k:Int)<(n:Int):=by omega
   have HST:=ah hstep;clear q hp hstep;go_wp2_with fail
   ·rename_i hc;have HS:=HST.out;rw[if_pos (eq_of_beq hc)] at HS;go_roundw
    case rel=>exact⟨k+1,by go_num,by omega,by rw[HS],by rw[HS],by trivial⟩
    case measure=>simp[intOf];omega
   ·rename_i hc;have HS:=HST.out;rw[if_neg (by simpa using hc)] at HS;go_roundw
    case rel=>exact⟨k+1,by go_num,by omega,by rw[HS],by rw[HS],by trivial⟩
    case measure=>simp[intOf];omega
  ·obtain rfl:k=n:=by omega
   have ht:M.take k=M:=eG (by rw[HN.out];omega);rw[ht,HV.out];go_wp2_with fail
   go_ret;exact⟨rfl,HE2.out⟩
theorem c1u{F:Nat->Prop}{a sb gen B uc:Nat}{D:D}{ids:List Int}{bss:List (List UInt8)}{w:World}{ua:Option Addr}{M:List (Nm×Nm)}(h:qw w F a sb gen D ids bss)(hM:Y4 (D5 bss)=M)(hrow:w.ownsRow B 60 2 (.slice ua M.length uc) M.length (M.flatMap G5)){key:Nm}(hk:key.length<=maxLen):
 Calls prog 30 #[o7 sb,.slice ua M.length uc,bC key] w λe w'=>e=.returned (.bool true)/\Ext w w':=calls_of_wp func30 rfl (G2 h hM hrow hk _ rfl)
theorem b0o{B1 B2 c1 c2:Nat}{w:World}{u1 u2:Option Addr}{M:List (Nm×Nm)}(h1:w.ownsRow B1 246 2 (.slice u1 M.length c1) M.length (M.flatMap G5))(h2:w.ownsRow B2 60 2 (.slice u2 M.length c2) M.length (M.flatMap G5)):
 Calls prog 132 #[.slice u1 M.length c1,.slice u2 M.length c2] w λe w'=>e=.returned (.bool true)/\Ext w w':=by
 obtain⟨n,hn⟩:∃n,M.length=n:=⟨_,rfl⟩;have hn2:n<=9223372036854775807:=by
  rcases h1.2 with⟨_,h⟩|⟨g,cap,cur,hv,_,_,h1,h2,_⟩
  ·omega
  ·unfold maxLen at h2;omega
 have H1:=ah h1;have H2:=ah h2;have HN:=ah hn;clear h1 h2;rw[hn];clear hn;go_enter func132,ntmps132
 go_wp2_with fail
 go_loopw [5] (λi wr=>∃k:Nat,i=.int .i64 k/\k<=n/\Ext w wr) (λi _=>n - (intOf i).toNat)
 case atStart=>exact⟨0,rfl,by omega,Ext.refl w⟩
 case round=>
  obtain⟨k,rfl,hkn,hE⟩:=hrel;by_cases hlt:k<n
  ·obtain⟨p,hp⟩:∃p,M[k]?=some p:=⟨_,au (by rw[HN.out];exact hlt)⟩;obtain⟨g,cap,e1,l1,-,-,q⟩:=Hr Z4 H1.out hp;obtain⟨g',cap',e1',nt,-,-,q'⟩:=Hr Z4 H2.out hp;rw[HN.out] at e1 l1 e1' nt;injection e1 with e1 _ e3;injection e1' with e1' _ e3';subst e1;subst e3;subst e1';subst e3';have x0:=hE.cell (q 0 _ rfl);have x1:=hE.cell (q 1 _ rfl);have y0:=hE.cell (q' 0 _ rfl);have y1:=hE.cell (q' 1 _ rfl);rw[jw] at x0 y0;have hki:(k:Int)<(n:Int):=by omega
   have HE:=ah hE;clear q q' hp hE;go_wp2_with fail
   go_quiet (fail)
   go_wp2_with fail
   go_roundw
   case rel=>exact⟨k+1,by go_num,by omega,⟨HE.out.os,HE.out.tape,HE.out.output,HE.out.size,HE.out.block⟩⟩
   case measure=>simp[intOf];omega
  ·obtain rfl:k=n:=by omega
   have HE:=ah hE;clear hE;go_wp2_with fail
   go_ret;exact⟨rfl,HE.out⟩
end
section
open Go.RowKit Go.Lib Go.Maps Dk Pl
section
variable{F:Nat->Prop}{a:Nat}{D:Dk.D}{w:World}{T:Array Value}
def Kept(l:List Nat)(T T':Array Value):Prop:=T'.size=T.size/\∀k∈l,T'[k]?=T[k]?
theorem Qm{n:Nat}{T:Array Value}{x:Nat->Value}{A:Array Value}(l:List Nat)(hT:T.size=n)(hx:∀k v,T[k]?=some v->x k=v)(hA:A.size=n)(hl:l.all (· < n)=true)(h:l.map (λk=>A[k]?)=l.map (λk=>some (x k))):Kept l T A:=by
 refine⟨hA.trans hT.symm,λk hk=>?_⟩;rw[b93 hT hx (dF (aQ.1 hl k hk))];exact List.map_inj_left.1 h k hk
theorem Kept.at{l:List Nat}{T T':Array Value}(h:Kept l T T'){k:Nat}{v:Value}(hv:T[k]?=some v)(hk:k∈l:=by decide):T'[k]?=some v:=(h.2 k hk).trans hv
def dm(F:Nat->Prop)(a:Nat)(D:Dk.D)(T:Array Value)(w:World):Exit->Act->World->Prop
 | .normal,a',w'=>a'.defers=[]/\Kept [1,6,7,8] T a'.tmps/\∃fv rows,a'.tmps[9]?=some fv/\qK w' w.heap.size fv rows D.files/\A7 w' F a D/\fA F F w w'
 | _,_,_=>False
theorem zg(hT:T.size=109)(h6:T[6]?=some (o7 a))(hD:A7 w F a D)(hc:D.Calm)(hfit:D.Fit):(g_ 6).wp prog (dm F a D T w) ⟨T,[]⟩ w:=by
 obtain⟨x,e,hx⟩:=GL 109 T hT;refine(congrArg (λT'=>Code.wp _ _ _ ⟨T',[]⟩ _) (U2 (k:=6) e (hx 6 _ h6))).mpr ?_;have hfs:=Ut F a D w hD hc (by have:=hfit.len;omega) (λx hx=>by have:=hfit.data x hx;omega) (λp hp=>by have:=hfit.names p hp;unfold maxLen;omega);have uw:=ah hfs;have HX:=ah hx;have H6:=ah (hx 6 _ h6);clear hfs hD hc hfit h6 e hx;unfold o7 at uw;unfold g_ opC o7;simp only[Code.behind,Code.head,Tryz.f5,aP,AN,List.range,List.range.loop,aB,dJ,up,reduceIte,Nat.reduceEqDiff];go_wp2_with fail
 refine uw.out.mono ?_;rintro e w1 ⟨fv,rows,rfl,hR,hD2,hC2⟩;have HR:=ah hR;have HD:=ah hD2;have HC:=ah hC2;clear hR hD2 hC2 uw;go_wp2;exact⟨rfl,Qm _ hT HX.out rfl rfl (by rw[aB,aB,aB,aB,aB,aB,aB,aB,H6.out];rfl),fv,rows,rfl,HR.out,HD.out,HC.out⟩
def di(T:Array Value)(w:World):Exit->Act->World->Prop
 | .normal,a',w'=>a'.defers=[]/\Kept [1,6,7,9] T a'.tmps/\w'=w
 | _,_,_=>False
theorem y_{a1 a2:Option Addr}{n c1 c2:Nat}(hT:T.size=109)(h7:T[7]?=some (.slice a1 n c1))(h8:T[8]?=some (.bool true))(h9:T[9]?=some (.slice a2 n c2)):(g_ 7).wp prog (di T w) ⟨T,[]⟩ w:=by
 obtain⟨x,e,hx⟩:=GL 109 T hT;refine(congrArg (λT'=>Code.wp _ _ _ ⟨T',[]⟩ _) (U2 (k:=9) (U2 (k:=8) (U2 (k:=7) e (hx 7 _ h7)) (hx 8 _ h8)) (hx 9 _ h9))).mpr ?_;have HX:=ah hx;have H7:=ah (hx 7 _ h7);have H9:=ah (hx 9 _ h9);clear h7 h8 h9 e hx;unfold g_ opC;simp only[Code.behind,Code.head,Tryz.f5,aP,AN,List.range,List.range.loop,aB,dJ,up,reduceIte,Nat.reduceEqDiff];go_wp2_with fail
 exact⟨rfl,Qm _ hT HX.out rfl rfl (by rw[aB,aB,aB,aB,aB,aB,aB,aB,H7.out,H9.out];rfl),rfl⟩
def df(T:Array Value)(w:World):Exit->Act->World->Prop
 | .normal,a',w'=>a'.defers=[]/\Kept [1,6,9] T a'.tmps/\Ext w w'
 | _,_,_=>False
theorem yz{v u:Value}{l:Fl}(hT:T.size=109)(h7:T[7]?=some v)(h9:T[9]?=some u)(h:Y2 w v l)(h':Y2 w u l):(g_ 8).wp prog (df T w) ⟨T,[]⟩ w:=by
 obtain⟨x,e,hx⟩:=GL 109 T hT;obtain⟨a1,c1,rfl,k1,k1'⟩:=h.form;obtain⟨a2,c2,rfl,k2,k2'⟩:=h'.form;obtain⟨n,hn⟩:∃n,l.length=n:=⟨_,rfl⟩;rw[hn] at h7 h9 k1 k2;refine(congrArg (λT'=>Code.wp _ _ _ ⟨T',[]⟩ _) (U2 (k:=9) (U2 (k:=7) e (hx 7 _ h7)) (hx 9 _ h9))).mpr ?_;have HX:=ah hx;have H9:=ah (hx 9 _ h9);have H:=ah h;have H':=ah h';have HN:=ah hn;clear h7 h9 e hx h h' hn;unfold g_ opC;simp only[Code.behind,Code.head,Tryz.f5,aP,AN,List.range,List.range.loop,aB,dJ,up,reduceIte,Nat.reduceEqDiff];go_wp2_with fail
 go_loopw [10] (λi wr=>∃k:Nat,k<=n/\i=.int .i64 k/\Ext w wr) (λi _=>n - (intOf i).toNat)
 case atStart=>exact⟨0,by omega,rfl,Ext.refl w⟩
 case round=>
  obtain⟨k,hk,rfl,hE⟩:=hrel;by_cases hlt:k<n
  ·obtain⟨q,hq⟩:∃q,l[k]?=some q:=⟨_,au (by rw[HN.out];exact hlt)⟩;obtain⟨g1,b1,rfl,x0,x1,hb1⟩:=(H.out.ext hE).at hq;obtain⟨g3,b3,rfl,y0,y1,hb3⟩:=(H'.out.ext hE).at hq;have hki:(k:Int)<(n:Int):=by omega
   have HB1:=ah (λn=>hb1.ext (Ext.drewN wr n));have HB3:=ah (λn=>hb3.ext (Ext.drewN wr n));have HE:=ah hE;clear hb1 hb3 hE hq;unfold bC at x0 y0;go_wp2_with fail
   go_quiet ((refine Calls.quiet_of (v:=.bool (decide (q.2=q.2))) ?_;exact c0E _ _ q.2 q.2 _ (HB3.out _) (HB1.out _)))
   go_wp2_with fail
   go_quiet (fail)
   go_wp2_with fail
   go_roundw
   case rel=>exact⟨k+1,by omega,by go_num,HE.out.trans (Ext.drewN wr _)⟩
   case measure=>simp[intOf];omega
  ·obtain rfl:k=n:=by omega
   go_wp2_with fail
   exact⟨rfl,Qm _ hT HX.out rfl rfl (by rw[aB,aB,aB,aB,aB,aB,H9.out];rfl),hE⟩
def rK(l:Fl)(T:Array Value)(w:World):Exit->Act->World->Prop
 | .normal,a',w'=>a'.defers=[]/\Kept [1,12] T a'.tmps/\∃v,a'.tmps[14]?=some v/\a'.tmps[15]?=some (.int .i64 (N8 l).2.1)/\Hq l w (.returned (.tuple #[v,.int .i64 (N8 l).2.1,bC (N8 l).2.2])) w'
 | _,_,_=>False
theorem A2{fv:Value}{l:Fl}(hT:T.size=109)(h9:T[9]?=some fv)(hf:Y2 w fv l)(hl:∀p∈l,p.2.length<=1099511627776):(g_ 10).wp prog (rK l T w) ⟨T,[]⟩ w:=by
 obtain⟨x,e,hx⟩:=GL 109 T hT;refine(congrArg (λT'=>Code.wp _ _ _ ⟨T',[]⟩ _) (U2 (k:=9) e (hx 9 _ h9))).mpr ?_;have EU:=ah (cU fv l w hf hl);have HX:=ah hx;clear hf hl h9 e hx;unfold g_ opC;simp only[Code.behind,Code.head,Tryz.f5,aP,AN,List.range,List.range.loop,aB,dJ,up,reduceIte,Nat.reduceEqDiff];go_wp2_with fail
 refine EU.out.mono ?_;intro e w1 hro;obtain⟨v,rfl,h2⟩:=id hro;have HR:=ah hro;clear hro h2 EU;go_wp2_with fail
 exact⟨rfl,Qm _ hT HX.out rfl rfl rfl,v,rfl,rfl,HR.out⟩
end
end
section
open Go.RowKit Go.Lib Go.Maps Dk Pl
def Py:Value->Option (DataW Unit×List MemPlace):=λ_=>some (.nil,[])
theorem b5L(f:Lit×DataW Unit->Bool):∀l:List (Lit×DataW Unit),(l.foldr DataW.insert []).any f=l.any f:=by
 intro l
 induction l with
 | nil=>rfl
 | cons p l ih=>rw[List.foldr_cons,any_insert,ih,List.any_cons]
theorem c3S{w:World}{r:Nat}{L:List (Nm×Fd)}(h:sO w r L)(hL:L.length<=maxLen):
 ∃D0:DataW Unit,w.ownsMap prog 9 Py r L.length D0/\Maps.size D0=L.length/\∀x:Nm,has D0 (.string x)=true<->x∈L.map (·.1):=by
 obtain⟨es,clock,hb,h2,h3,h4,h5,h6⟩:=h;have hk:es.toList.map (·.key)=L.map λp=>bC p.1:=by
  have:=congrArg (List.map Prod.fst) h2;simpa [jQ,Function.comp_def] using this
 have hlen:es.size=L.length:=by
  have:=congrArg List.length h2;simpa using this
 have hkk:∀e∈es.toList,∃x,x∈L.map (·.1)/\e.key=bC x/\Go.WideElems.rd prog 9 Py e=some (.string x,.nil):=λe he=>by
  have h7:e.key∈L.map λp=>bC p.1:=hk▸gu he;obtain⟨p,hp,hpe⟩:=bg.1 h7;obtain⟨t,ht⟩:=h5 p hp;obtain⟨x,e',rfl,-⟩:=Maps.keyOf_str underlying9 ht;obtain rfl:p.1=x:=encStr_inj e';refine⟨p.1,gu hp,hpe.symm,?_⟩;unfold Go.WideElems.rd Py;rw[<-hpe,ht];rfl
 refine⟨_,⟨es,clock,hb,⟨by omega,⟨h3,h4,?_⟩,λe he=>?_⟩,by omega,rfl⟩,?_,λx=>?_⟩
 ·rw[hk];exact ig.2 ((ig.1 h6).imp λhne e=>hne (Ag _ _ e))
 ·obtain⟨x,-,-,h⟩:=hkk e he;exact⟨_,h⟩
 ·rw[Maps.size_eq,length_sorted,b_,kX,hlen]
 ·rw[has_eq,b5L,List.any_eq_true];constructor
  ·rintro⟨p,hp,hs⟩;obtain⟨e,he,rfl⟩:=bg.1 hp;obtain⟨y,hy,-,h⟩:=hkk e he;unfold Go.WideElems.rg at hs;rw[h] at hs;have:y=x:=by simpa [Lit.sameKey] using hs
   exact this▸hy
  ·intro hx;have h7:bC x∈es.toList.map (·.key):=by
    rw[hk];obtain⟨p,hp,rfl⟩:=bg.1 hx;exact gu (f:=λp:Nm×Fd=>bC p.1) hp
   obtain⟨e,he,hke⟩:=bg.1 h7;obtain⟨y,hy,hye,h⟩:=hkk e he;refine⟨_,gu he,?_⟩;unfold Go.WideElems.rg;rw[h];obtain rfl:y=x:=Ag _ _ (hye.symm.trans hke);simp[Lit.sameKey]
abbrev GV(L:List (Nm×Fd)):={x:Nm // x∈L.map (·.1)}
def YI{L:List (Nm×Fd)}(x:GV L):Value:=encStr x.1
theorem It{L:List (Nm×Fd)}(F:Fence)(n:Nat)(h10:F.fn 192)(hro:F.round=none)(hn:1<=n){Bm b:Nat}{w:World}(hBm:Bm<w.heap.size)(hm:w.cell? ⟨Bm,0,none⟩=some (.map (some b)))(hla:sO w b L)(hL:L.length<=maxLen):
 SeqStops F n prog 192 #[.pointer (some ⟨Bm,0,none⟩)] (YI (L:=L)) (λss=>(ss.map (·.1)).Perm (L.map (·.1))) (λ_=>True) L.length w:=λl J Jx W hW hJ _ hY h0=>by
 have hbl:=hla.lt;obtain⟨D0,hown,hsz,hhas⟩:=c3S (hla.block (hW.block b hbl)) hL;have hm':=(hW.cell (p:=⟨Bm,0,none⟩) hBm).trans hm;have u9:=run_underlying underlying9;refine callsIn_of_wp func192 rfl h10 ?_ hro;simp only[ntmps192,f_,bV,fB,Nat.reduceAdd,Nat.reduceSub,eu,dZ,fF,eU,cO,List.cons_append]
 gi_wp2_with (first
  | (gi_at_range;refine wpListIn_range_own _ rfl _ 136 rfl 9 160 (string_keyed underlying9) underlying136 _ b L.length _ rfl hown ?_;intro w0 hrg0 hg0 hs0)
  | gi_in)
 go_frame
 gi_loopw [3] (λ_ wr=>∃(left:Lit->Bool)(cnt:Nat)(ss:List (GV L)),wr.ranges prog 9 Py b W.heap.size L.length D0 left cnt/\ss.length+cnt<=L.length/\Collected D0 left (ss.map (·.1))/\J ss wr)
  (λ_ wr=>wr.rangeLeft b W.heap.size)
 case atStart=>
  exact⟨_,_,[],hrg0,by simp[hsz],Collected.start D0,hJ [] W w0 none h0 hg0 (λr e=>by cases e)⟩
 case round=>
  obtain⟨left,cnt,ss,hrg,hcs,hC,hJs⟩:=hrel
  gi_wp2_with (first
   | (gi_at_next;refine wpListIn_next_ranges _ rfl _ rfl 9 (string_keyed underlying9) Py encStr id (λkey kl hk=>by obtain⟨x,hx,_⟩:=Maps.keyOf_str underlying9 hk;exact⟨x,hx⟩) (λv _ _=>⟨v,rfl⟩) b W.heap.size L.length _ _ _ rfl hrg ?_ ?_)
   | gi_in)
  ·intro hc0 hl0;gi_wp2
   go_end0
   refine⟨⟨_,rfl⟩,.inl ⟨ss,?_,hJs⟩⟩;refine(jl hC.1 (hla.nodup)).2 λx=>?_;rw[hC.2 x,hl0,<-hhas x];simp
  ·intro x c kl yd yp w2 cnt2 hkey hlk hv hat hrg2 hlt hg2 hs2 hen;obtain⟨x',ex,rfl,_⟩:=Maps.keyOf_str underlying9 hkey;obtain rfl:x=x':=encStr_inj ex;have hJ2:J ss w2:=hJ ss wr w2 (some W.heap.size) hJs hg2 (λr e=>by cases e;exact⟨aj _,hrg.iter_walk⟩);have hxm:x∈L.map (·.1):=(hhas x).1 (has_true_of_atKey hat);obtain⟨fn,tmps,assign,body,hy,hR⟩:=hY ss ⟨x,hxm⟩ w2 hJ2 (by omega);unfold YI at hy;dsimp only at hy;clear hs2;gi_wp2
   refine hR.mono ?_;have hC2:=hC.step hlk hat;rintro e W3 (⟨rfl,hJ3,hk3⟩|⟨rfl,hJx3⟩)
   ·gi_wp2
    have hrg3:=hrg2.of_walks hk3;go_roundw
    case rel=>exact⟨_,cnt2,ss++[⟨x,hxm⟩],hrg3,by simp;omega,by rw[bY];exact hC2,hJ3⟩
    case measure=>rw[hrg3.left_eq,hrg.left_eq];exact hlt
   ·gi_wp2
    refine bodyPost_ret (results_none rfl _ _ _) rfl ?_;exact⟨⟨_,rfl⟩,.inr ⟨ss++[⟨x,hxm⟩],trivial,hJx3⟩⟩
end
section
open Go.RowKit Go.Lib Go.Maps Dk Pl
attribute [local go_sem] Oper.semAt_some
theorem c1y(a b c d:Int)(k v:ByteArray)(e:Bool)(w:World):(Instr.field 160 (.agg #[.int .i64 a,.int .i64 b,.int .i64 c,.int .u64 d,.string k,.string v,.bool e]) 2).run prog w=.ok (.agg #[.int .u64 d,.string k,.string v,.bool e]) w:=by kernel_rfl
theorem c1z(d:Int)(k v:ByteArray)(e:Bool)(w:World):(Instr.field 111 (.agg #[.int .u64 d,.string k,.string v,.bool e]) 3).run prog w=.ok (.bool e) w:=by kernel_rfl
theorem b5I(F:Fence)(n:Nat)(h7:F.fn 168)(hro:F.round=none)(mb:Option Nat)(w:World):
 CallsIn F n prog 168 #[.map mb] w λe w'=>e=.returned (.func (.func 192) #[] #[.pointer (some ⟨w.heap.size,0,none⟩)])/\w'=w.alloc (.cells #[.map mb] 136):=by
 refine callsIn_of_wp func168 rfl h7 ?_ hro;simp only[ntmps168,f_,bV,fB,Nat.reduceAdd,Nat.reduceSub,eu,dZ,fF,eU,cO,List.cons_append];gi_wp2
 go_ret;exact⟨rfl,rfl⟩
def Qg{L:List (Nm×Fd)}(x:GV L):Bool:=match D7 L x.1 with|some f=>!f.2.2.del|none=>false
def o_{L:List (Nm×Fd)}(l:List (GV L)):List Nm:=(l.filter Qg).map (·.1)
theorem SD{L:List (Nm×Fd)}(l:List (GV L))(x:GV L):o_ (l++[x])=o_ l++if Qg x then[x.1] else[]:=by
 unfold o_;rw[List.filter_append,bY];cases h:Qg x<;>simp[h]
theorem b3Y{L:List (Nm×Fd)}(hn:(L.map (·.1)).Nodup){l:List (GV L)}(h:(l.map (·.1)).Perm (L.map (·.1))):(o_ l).Perm (uf L):=by
 have e1:o_ l=(l.map (·.1)).filter λk=>match D7 L k with|some f=>!f.2.2.del|none=>false:=by
  unfold o_;rw[List.filter_map];rfl
 have e2:uf L=(L.map (·.1)).filter λk=>match D7 L k with|some f=>!f.2.2.del|none=>false:=by
  unfold uf;rw[List.filter_map];refine congrArg _ (List.filter_congr λp hp=>?_);obtain⟨j,hj⟩:=dY hp;simp only[Function.comp_apply];rw[Af hn hj]
 rw[e1,e2];exact h.filter _
theorem keys_in(n:Nat)(hn:3<=n){L:List (Nm×Fd)}{sb r:Nat}{w:World}(d4:w.cell? ⟨sb,4,none⟩=some (.map (some r)))(hla:sO w r L)(hL:L.length*16<=140737488355328)(hkl:∀p∈L,p.1.length<=maxLen):
 CallsIn Fence.wide n prog 131 #[o7 sb] w λe w'=>∃v,e=.returned v/\w'.ownsRow w.heap.size 9 1 v ((uf L).mergeSort nI).length (((uf L).mergeSort nI).map bC)/\Ext w w':=by
 have h1:1<=n:=by omega
 have hro:Fence.wide.round=none:=rfl;have f168:Fence.wide.fn 168:=trivial;have f192:Fence.wide.fn 192:=trivial;have f123:Fence.wide.fn 123:=trivial;obtain⟨i0,hi,hz0,hz1,hz2⟩:=info_parts CM;have hml:L.length<=maxLen:=by unfold maxLen;omega
 have hsb:sb<w.heap.size:=cell_lt d4;unfold o7;refine callsIn_of_wp_marks func131 rfl trivial ?_ hro;simp only[ntmps131,f_,bV,fB,Nat.reduceAdd,Nat.reduceSub,eu,dZ,fF,eU,cO,List.cons_append];gi_wp2_with (gi_at_call 168;refine(b5I Fence.wide (n - 1) f168 hro _ _).mono ?_;rintro e w' ⟨rfl,rfl⟩)
 obtain⟨w1,hw1⟩:∃w1,w.alloc (.cells #[.pointer (some ⟨sb,0,none⟩)] 32)=w1:=⟨_,rfl⟩;have hs1:w1.heap.size=w.heap.size+1:=by rw[<-hw1];simp
 have hE1:Ext w w1:=hw1▸(Ext.refl w).new _;have b1:Boxed w1 w.heap.size 32 (.pointer (some ⟨sb,0,none⟩)):=hw1▸Boxed.new w 32 _;have e4:=hE1.cell d4;have FP:=hla.ext hE1;rw[hw1];have bL:=Boxed.new w1 73 (.slice none 0 0);have bM:=Boxed.new (w1.alloc (.cells #[.slice none 0 0] 73)) 136 (.map (some r));have hB0:Below (w.heap.size+1) w1 ((w1.alloc (.cells #[.slice none 0 0] 73)).alloc (.cells #[.map (some r)] 136)):=by
  rw[<-hs1];exact((Below.refl _ w1).alloc (aj _) _).alloc (by simp) _
 rw[World.size_alloc,hs1] at bM;rw[hs1] at bL;have vi:=bL.alloc (.cells #[.map (some r)] 136);obtain⟨w3,hw3⟩:∃w3,(w1.alloc (.cells #[.slice none 0 0] 73)).alloc (.cells #[.map (some r)] 136)=w3:=⟨_,rfl⟩;have hs3:w3.heap.size=w.heap.size+1+1+1:=by rw[<-hw3];simp[hs1]
 rw[hw3] at bM hB0 vi⊢;have NG:sO w3 r L:=FP.block (hB0.block r (by have:=hla.lt;omega));clear bL hw3;refine wpIn_rangeFunc_ownG hro h1 (gf:=192) (lb:=#[.pointer (some ⟨w.heap.size+1+1,0,none⟩)]) rfl f192 (enters_of func192 (by kernel_rfl) rfl)
  (It Fence.wide (n - 1) f192 hro (by omega) (Bm:=w.heap.size+1+1) (by omega) bM.cell NG hml) walksK_t walksK_b (Below.refl _ _) (λ_=>rfl)
  (λpre W=>(∃v,Boxed W (w.heap.size+1) 73 v/\W.ownsRow (w.heap.size+1) 9 1 v (o_ pre).length ((o_ pre).map encStr)/\True)/\Below (w.heap.size+1) w1 W)
  (λ_ _ _=>False)
  (OwnFrom.and (Own.from (holdsRow_own (w.heap.size+1) (w.heap.size+1) 73 9 1 (λpre=>(o_ pre).length) (λpre=>(o_ pre).map encStr) (λ_ _=>True)) _) (ownFrom_below (by omega) (by omega)))
  (λ_ _ _ _ _ hs _ _=>hs)
  ⟨⟨_,vi,World.ownsRow_nil _ _ _ _,trivial⟩,hB0⟩
  (λx=>{tmps:=#[.pointer (some ⟨sb,0,none⟩),.pointer (some ⟨w.heap.size,0,none⟩),.slice none 0 0,.pointer (some ⟨w.heap.size+1,0,none⟩),encStr x.1,.pointer (some ⟨sb,0,none⟩),.pointer (some ⟨sb,0,none⟩),.pointer (some ⟨sb,4,none⟩),.map (some r),.func (.func 192) #[] #[.pointer (some ⟨w.heap.size+1+1,0,none⟩)],encStr x.1,undef,undef,undef,undef,undef,undef,undef,undef,undef,undef,undef,undef,undef,undef,undef,undef],defers:=[]}) ?assign ?body ?done ?stop
 case assign=>
  intro l x W K hK;unfold YI;gi_wp2
  exact hK
 case body=>
  rintro l pre x W ⟨⟨v,hv,hrow,-⟩,hB⟩ hlt;have hc:=hv.cell;have c1:W.cell? ⟨w.heap.size,0,none⟩=some (.pointer (some ⟨sb,0,none⟩)):=(World.cell?_of_block (hB.block w.heap.size (by omega))).trans b1.cell;have c4:W.cell? ⟨sb,4,none⟩=some (.map (some r)):=(World.cell?_of_block (hB.block sb (by omega))).trans e4;have ND:sO W r L:=FP.block (hB.block r (by have:=hla.lt;omega));have hpl:(o_ pre).length<=pre.length:=by unfold o_;rw[b_];exact jZ _ _
  obtain⟨x,hx⟩:=x;obtain⟨p,hp,hpx⟩:=bg.1 hx;obtain⟨j,hj⟩:=dY hp;have hf:D7 L x=some p.2:=hpx▸Af hla.nodup hj;have hkx:x.length<=maxLen:=hpx▸hkl p hp;generalize p.2=f at hf;have hlk:=ND.look EH Ag underlying136 (LO W) (Et hkx);rw[hf] at hlk;have tH:(Instr.lookup 136 (.map (some r)) (encStr x) false).run prog W=.ok (.agg #[.int .i64 f.1,.int .i64 f.2.1,.int .i64 f.2.2.size,.int .u64 f.2.2.seq,.string ⟨f.2.2.key.toArray⟩,.string ⟨f.2.2.val.toArray⟩,.bool f.2.2.del]) W:=hlk;have hlv:Qg (L:=L) ⟨x,hx⟩ = !f.2.2.del:=by unfold Qg;dsimp only;rw[hf]
  have hfr:=λwx=>c1y f.1 f.2.1 f.2.2.size f.2.2.seq ⟨f.2.2.key.toArray⟩ ⟨f.2.2.val.toArray⟩ f.2.2.del wx;have hfd:=λwx=>c1z f.2.2.seq ⟨f.2.2.key.toArray⟩ ⟨f.2.2.val.toArray⟩ f.2.2.del wx;clear hlk hf hpx hp hj hla FP NG ND
  cases hd:f.2.2.del with
  | true=>
   rw[hd] at tH hfr hfd hlv;have qE:=ah hrow;have fS:=ah hlv;clear hrow hlv;gi_wp2
   exact⟨KeepsFrom.refl _ _,(KeepsOthers.refl _).walks,⟨v,hv,by rw[SD,fS.out];simpa using qE.out,trivial⟩,hB⟩
  | false=>
   rw[hd] at tH hfr hfd hlv;have fS:=ah hlv;clear hlv;gi_wp2_with (gi_at_builtin;refine wpListIn_append_own _ rfl _ _ 73 rfl (w.heap.size+1) 9 i0 (.string ⟨#[]⟩) 1 16 underlying73 hi hz0 hz1 hz2 rfl (by decide) _ _ _ rfl (hrow.alloc _) ⟨W.heap.size,0,none⟩ 1 1 [encStr x] rfl rfl (cell_one_new _ _ _) (by simp[Value.oneCell']) (by omega) (by omega) (by have:=hB.size;simp;omega) ?_;intro v' w1' hown' hgrow _;obtain⟨g',cap',rfl⟩:=ownsRow_succ hown';obtain⟨hv1,hv2,hr2,hk2,hb2⟩:=hv.appended (by decide) hrow (by have:=hB.size;omega) (aj _) hown' hgrow;have hc1:=hv1.cell;have hf1:=hv1.frozen)
   exact⟨hk2.from _,hk2.walks,⟨_,hv2,by rw[SD,fS.out];simpa using hr2,trivial⟩,hB.trans hb2⟩
 case done=>
  rintro D ys W hD hperm ⟨⟨v,hv,hrow,-⟩,hB⟩ hK;have hc:=hv.cell;have hts:(o_ ys).mergeSort nI=(uf L).mergeSort nI:=bR (b3Y hla.nodup hperm);have hlen:((uf L).mergeSort nI).length=(o_ ys).length:=by rw[<-hts];simp
  have hyl:(o_ ys).length<=L.length:=by
   have e:=hperm.length_eq;simp only[b_] at e;unfold o_;rw[b_];exact ay (jZ _ _) (by omega)
  have Jy:Ext w W:=hE1.trans (hB.mono (by omega));have ho:=hrow;rcases hrow.2 with⟨rfl,h0⟩|⟨g,cap,cur,rfl,hbase,hb,h1',h2,h3,h4⟩
  ·have hs:=Tryz.slices_Sort_string_none none 0 W;have HS:=ah hs;clear hs;gi_wp2_with (gi_at_call 123;refine(callsIn_wide.2 HS.out).mono ?_;rintro e w4 ⟨rfl,rfl⟩)
   refine⟨by simp,.inl ⟨_,_,rfl,run_takeDeferred hK,?_⟩⟩;refine⟨_,results_tmp rfl _ _ _,_,rfl,?_,Below.trans Jy (belowK_b (w:=w) (aj _) _ D _ _ (by omega) hK rfl rfl)⟩;have:(uf L).mergeSort nI=[]:=cZ (by omega);rw[this];exact World.ownsRow_nil _ _ _ _
  ·have hH:Go.Sort.Holds encStr W g 0 (o_ ys).toArray:=holds_of_block hb (by rw[<-qx (o_ ys).length];exact h4);have hs:=Tryz.slices_Sort_string g 0 cap (o_ ys) W hH (aN.1 hb).1 (by omega);have si:some D≠some g:=λe=>by cases e;rw[hb] at hK;cases hK
   have o4:some (w.heap.size+1)≠some g:=hv.not_row (by decide) hrow;have HS:=ah hs;have HR:=ah hrow;have HB:=ah hb;have H3:=ah h3;clear hs hH h4 hrow ho hb h3;gi_wp2_with (gi_at_call 123;refine(callsIn_wide.2 HS.out).mono ?_;rintro e w4 ⟨rfl,nn,os,hw4⟩;have hg:W.grownBy w4 (some g):=hw4▸grownBy_sorted _;have hv4:=hv.kept hg o4;have hc4:=hv4.cell;have hK4:=(hg.block D (aN.1 hK).1 si).trans hK;have HG:=ah hg;have VK:=ah hw4;clear hg hw4 hc hv)
   refine⟨by simp,.inl ⟨_,_,rfl,run_takeDeferred hK4,?_⟩⟩;refine⟨_,results_tmp rfl _ _ _,_,rfl,?_,Below.trans (Below.grown Jy HG.out Jy.size (λk hk=>by injection hk with hk;omega)) (belowK_b (w:=w) (aj _) _ D _ _ (by omega) hK4 rfl rfl)⟩;have:=ownsRow_sorted (n:=nn) (os:=os) (ss:=o_ ys) (ts:=(uf L).mergeSort nI) hlen (ay (qy _) hbase) HB.out h1' h2 H3.out;rw[<-hts] at this;refine ownsRow_putObj ?_ _ hK4 rfl;rw[VK.out,hlen,<-hts];exact this
 case stop=>
  rintro D c pre W _ _ h _;exact h.elim
end
end Go.Proofs.YtgpbhjjajpbeeaaGreatDoor
