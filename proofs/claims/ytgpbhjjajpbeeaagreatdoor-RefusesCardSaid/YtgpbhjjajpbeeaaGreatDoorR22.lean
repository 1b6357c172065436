/- A part of what the last file proves. -/
import Derived.Test.YtgpbhjjajpbeeaaGreatDoorR21
import Derived.Laws.StructEq
import Derived.OwnWalk
set_option linter.all false
set_option maxRecDepth 100000
set_option maxHeartbeats 6400000
namespace Go.Proofs.YtgpbhjjajpbeeaaGreatDoor
section
open Go.RowKit Go.Lib Go.Maps Dk Pl
def a0W(x:Int):List Value:=[.int .i64 x,.slice none 0 0,.int .i64 0]
def c2J(w:World)(B b:Nat)(ids:List Int)(v:Value):Prop:=o7 w b 50 #[.int .u64 0,v]/\w.ownsRow B 54 3 v ids.length (ids.flatMap a0W)
theorem b8B(ids:List Int)(i:Nat)(x:Int)(h:ids[i]?=some x)(j:Nat)(hj:j<3):(ids.flatMap a0W)[3*i+j]?=(a0W x)[j]?:=by
 induction ids generalizing i with
 | nil=>simp at h
 | cons y l ih=>
  rw[List.flatMap_cons]
  cases i with
  | zero=>
   simp at h;subst h
   rw[List.getElem?_append_left (by simp[a0W];omega)];simp
  | succ i=>
   simp at h;rw[List.getElem?_append_right (by simp[a0W];omega),show 3*(i+1)+j - (a0W y).length=3*i+j by simp[a0W];omega];exact ih i h
theorem c2J.ids{w:World}{B b:Nat}{ids:List Int}{v:Value}(h:c2J w B b ids v)(hl:ids.length<=1000):c5e w b ids:=by
 obtain⟨h1,h2⟩:=h;have hm:maxLen<=9223372036854775807:=by unfold maxLen;omega
 rcases h2.2 with⟨rfl,h0⟩|⟨g,cap,cur,rfl,_,hb,h4,h5,h6,h7⟩
 ·refine⟨0,none,0,by rw[h0];exact h1,by omega,by omega,fun i x hx=>?_⟩;have:=(List.getElem?_eq_some_iff.1 hx).1;omega
 ·refine⟨0,some ⟨g,0,none⟩,cap,h1,by omega,by omega,fun i x hx=>⟨g,rfl,?_⟩⟩;have e:=b8B ids i x hx 0 (by omega);rw[<-h7,List.getElem?_take] at e;split at e
  ·simp only[World.cell?,hb];rw[show i*3=3*i+0 by omega];simpa [a0W] using e
  ·simp[a0W] at e
theorem b8C:(Tryz.prog.info? 54).map (fun i=>(i.zero,i.size,i.bytes))=some (some (.agg #[.int .i64 0,.slice none 0 0,.int .i64 0]),3,40):=by kernel_rfl
end
section
open Go.RowKit Go.Lib Go.Maps Dk Pl
theorem fieldPlace(a b c d:Int)(k v:ByteArray)(e:Bool)(w:World):(Instr.field 160 (.agg #[.int .i64 a,.int .i64 b,.int .i64 c,.int .u64 d,.string k,.string v,.bool e]) 0).run Tryz.prog w=.ok (.agg #[.int .i64 a,.int .i64 b]) w:=by kernel_rfl
end
section
open Dk Pl
end
section
open Go.RowKit Go.Lib Go.Maps Dk Pl
end
section
open Go.RowKit Go.Lib Go.Maps Dk Pl
theorem c4y{γ:Type}(f:γ->List Value){N:Nat}(hf:∀x,(f x).length=N):∀(l:List γ)(i:Nat)(x:γ),l[i]?=some x->∀j,j<N->(l.flatMap f)[i*N+j]?=(f x)[j]?:=by
 intro l
 induction l with
 | nil=>intro i x h;simp at h
 | cons y l ih=>
  intro i x h j hj;rw[List.flatMap_cons]
  cases i with
  | zero=>
   simp at h;subst h
   rw[List.getElem?_append_left (by rw[hf];omega)];simp
  | succ i=>
   simp at h;have e:(i+1)*N+j - N=i*N+j:=by rw[Nat.succ_mul];omega
   rw[List.getElem?_append_right (by rw[hf,Nat.succ_mul];omega),hf,e];exact ih i x h j hj
theorem c1o{γ:Type}{f:γ->List Value}{N:Nat}(hf:∀x,(f x).length=N){w:World}{B:Nat}{e:TypeId}{v:Value}{l:List γ}(h:w.ownsRow B e N v l.length (l.flatMap f)){k:Nat}{t:γ}(hk:l[k]?=some t):
 ∃g cap,v=.slice (some ⟨g,0,none⟩) l.length cap/\l.length<=cap/\g<w.heap.size/\B<=g/\∀c x,(f t)[c]?=some x->w.cell? ⟨g,k*N+c,none⟩=some x:=by
 have hkl:k<l.length:=(List.getElem?_eq_some_iff.1 hk).1;rcases h.2 with⟨_,h0⟩|⟨g,cap,cur,rfl,hb,hg,h1,h2,h3,h4⟩
 ·omega
 ·refine⟨g,cap,rfl,h1,lt_of_block hg,hb,fun c x hx=>?_⟩;have hc:c<N:=by
   have:=(List.getElem?_eq_some_iff.1 hx).1;rw[hf] at this;exact this
  have e1:=c4y f hf l k t hk c hc;rw[hx] at e1;have hlt:k*N+c<l.length*N:=by
   have:(k+1)*N<=l.length*N:=Nat.mul_le_mul_right _ hkl;rw[Nat.succ_mul] at this;omega
  rw[<-h4,List.getElem?_take,if_pos hlt] at e1;simp only[World.cell?,hg];simpa using e1
end
section
open Go.RowKit Go.Lib Go.Maps Dk Pl
def a5J(p:Int×Value×Nat):List Value:=[.int .i64 p.1,p.2.1,.int .i64 p.2.2]
def c3X(W:World)(g i:Nat)(ids:List Int)(bss:List (List UInt8)):Prop:=
 W.cell? ⟨g,i*3,none⟩=some (.int .i64 (ids.getD i 0))/\W.cell? ⟨g,i*3+2,none⟩=some (.int .i64 ((bss.getD i []).length:Nat))/\
  ∃u,W.cell? ⟨g,i*3+1,none⟩=some u/\a2M W 116 5 u (P7 (bss.getD i [])).length ((P7 (bss.getD i [])).flatMap a4r)
def a4c(W:World)(rb gen:Nat)(ids:List Int)(bss:List (List UInt8)):Prop:=
 ∃(a:Option Addr)(cap:Nat),o7 W rb 50 #[.int .u64 gen,.slice a ids.length cap]/\ids.length<=cap/\cap<=9223372036854775807/\bss.length=ids.length/\∀i,i<ids.length->∃g,a=some ⟨g,0,none⟩/\c3X W g i ids bss
structure RSt(W:World)(B rb gen:Nat)(ids:List Int)(bss:List (List UInt8))(rows:List (Int×Value×Nat))(v:Value):Prop where
 box:o7 W rb 50 #[.int .u64 gen,v]
 row:W.ownsRow B 54 3 v rows.length (rows.flatMap a5J)
 len:rows.length=bss.length
 seg:∀(i:Nat)p,rows[i]?=some p->p.1=ids.getD i 0/\p.2.2=(bss.getD i []).length/\W.ownsRow B 116 5 p.2.1 (P7 (bss.getD i [])).length ((P7 (bss.getD i [])).flatMap a4r)
theorem c1V{w:World}{B:Nat}{e:TypeId}{size:Nat}{v:Value}{n:Nat}{xs:List Value}(h:w.ownsRow B e size v n xs):a2M w e size v n xs:=by
 refine⟨h.1,?_⟩;rcases h.2 with h|⟨g,cap,cur,rfl,_,h2,h3,h4,h5,h6⟩
 ·exact .inl h
 ·exact .inr ⟨g,cap,cur,_,rfl,h2,h3,h4,h5,h6⟩
theorem RSt.store{W:World}{B rb gen:Nat}{ids:List Int}{bss:List (List UInt8)}{rows:List (Int×Value×Nat)}{v:Value}(h:RSt W B rb gen ids bss rows v)(hl:bss.length=ids.length):a4c W rb gen ids bss:=by
 have hrl:rows.length=ids.length:=h.len.trans hl;have hrow:=h.row;have hm:maxLen<=9223372036854775807:=by unfold maxLen;omega
 have hform:∃(a:Option Addr)(cap:Nat),v=.slice a ids.length cap/\ids.length<=cap/\cap<=9223372036854775807:=by
  rcases hrow.2 with⟨rfl,h0⟩|⟨g,cap,cur,rfl,_,_,h3,h4,_⟩
  ·exact⟨none,0,by rw[<-hrl,h0],by omega,by omega⟩
  ·exact⟨_,cap,by rw[hrl],by omega,by omega⟩
 obtain⟨a,cap,rfl,h1,h2⟩:=hform;refine⟨a,cap,h.box,h1,h2,hl,fun i hi=>?_⟩;have hp:rows[i]?=some rows[i]:=List.getElem?_eq_getElem (by omega);obtain⟨g,cap',e,-,-,-,hc⟩:=c1o (f:=a5J) (fun _=>rfl) hrow hp;injection e with e1 e2 e3;obtain⟨s1,s2,s3⟩:=h.seg i _ hp;have c0:=hc 0 _ rfl;have c1:=hc 1 _ rfl;have c2:=hc 2 _ rfl;rw[Nat.add_zero,s1] at c0;rw[s2] at c2;exact⟨g,e1,c0,c2,_,c1,c1V s3⟩
theorem RSt.keep{W W':World}{B rb gen:Nat}{ids:List Int}{bss:List (List UInt8)}{rows:List (Int×Value×Nat)}{v:Value}(h:RSt W B rb gen ids bss rows v)(hk:∀b,b<W.heap.size->W'.heap[b]?=W.heap[b]?):RSt W' B rb gen ids bss rows v where
 box:=(hk rb h.box.lt).trans h.box
 row:=Dep.row h.row W' fun b hb=>hk b (World.ownsRow.lt h.row b hb).2
 len:=h.len
 seg:=fun i p hp=>⟨(h.seg i p hp).1,(h.seg i p hp).2.1,Dep.row (h.seg i p hp).2.2 W' fun b hb=>hk b (World.ownsRow.lt (h.seg i p hp).2.2 b hb).2⟩
def c1W(W:World)(B rb gen:Nat)(ids:List Int)(bss:List (List UInt8)):Prop:=∀W':World,(∀b,B<=b->b<W.heap.size->W'.heap[b]?=W.heap[b]?)->a4c W' rb gen ids bss
theorem c1W.get{W:World}{B rb gen:Nat}{ids:List Int}{bss:List (List UInt8)}(h:c1W W B rb gen ids bss):a4c W rb gen ids bss:=h W fun _ _ _=>rfl
theorem RSt.new{W:World}{B B' rb gen:Nat}{ids:List Int}{bss:List (List UInt8)}{rows:List (Int×Value×Nat)}{v:Value}(h:RSt W B rb gen ids bss rows v)(hl:bss.length=ids.length)(hr:B<=rb)(hB:B'<=B):c1W W B' rb gen ids bss:=fun W' hk=>
 RSt.store (W:=W') (B:=B) (rows:=rows) (v:=v) ⟨(hk rb (by omega) h.box.lt).trans h.box,Dep.row h.row W' fun b hb=>hk b (by have:=(World.ownsRow.lt h.row b hb).1;omega) (World.ownsRow.lt h.row b hb).2,h.len,
  fun i p hp=>⟨(h.seg i p hp).1,(h.seg i p hp).2.1,Dep.row (h.seg i p hp).2.2 W' fun b hb=>hk b (by have:=(World.ownsRow.lt (h.seg i p hp).2.2 b hb).1;omega) (World.ownsRow.lt (h.seg i p hp).2.2 b hb).2⟩⟩ hl
def a4q(l:Fl)(w:World)(e:Ending)(w':World):Prop:=
 ∃v,e=.returned (.tuple #[v,.int .i64 (I7 l).2.1,strV (I7 l).2.2])/\Ext w w'/\(((I7 l).1=none/\v=.pointer none)\/∃g ids bss rb,(I7 l).1=some (g,ids,bss)/\b0z ids/\(∀i,(bss.getD i []).length<=1099511627776)/\v=y8 rb/\w.heap.size<=rb/\c1W w' w.heap.size rb g ids bss)
theorem b24(v:Value)(l:Fl)(w:World)(h:U6 w v l)(hl:∀p∈l,p.2.length<=1099511627776):
 Calls Tryz.prog 17 #[v] w (a4q l w):=by
 obtain⟨i0,hi0,hz0,hz1,hz2⟩:=info_parts b8C;have hfd:=b0a v l H9 w h;have HFD:=Lib.hid hfd;have HF:=Lib.hid h;have HL:=Lib.hid hl;clear hfd h hl;unfold strV at HFD;unfold H9 at HFD;go_enter Tryz.func17,Tryz.ntmps17
 go_wp2_with fail
 refine HFD.out.mono ?_;rintro e w1 ⟨rfl,bv,rfl,hbv⟩
 cases hm:F5 l [109,97,110,105,102,101,115,116] with
 | none=>
  have hfin:a4q l w1 (.returned (.tuple #[.pointer none,.int .i64 5,.string ⟨#[]⟩])) w1:=by
   have e:=a05 hm;exact⟨.pointer none,by rw[e];rfl,Ext.refl w1,.inl ⟨by rw[e],rfl⟩⟩
  have HFIN:=Lib.hid hfin;clear hfin hbv HFD;go_wp2;go_ret3
  exact HFIN.out
 | some m=>
  rw[hm] at hbv;have hrm:=a8P bv m w1 hbv;have HRM:=Lib.hid hrm;clear hrm hbv HFD;go_wp2_with fail
  refine HRM.out.mono ?_;rintro e w5 ⟨gv,iv,ok,rfl,hE5,hcase⟩;clear HRM;rcases hcase with⟨hrd,rfl,rfl,rfl⟩|⟨gen,ids,hrd,rfl,rfl,hown⟩
  ·have hfin:a4q l w1 (.returned (.tuple #[.pointer none,.int .i64 6,.string ⟨#[]⟩])) w5:=by
    have e:=a1z hm hrd;exact⟨.pointer none,by rw[e];rfl,hE5,.inl ⟨by rw[e],rfl⟩⟩
   have HFIN:=Lib.hid hfin;clear hfin hrd hm hE5;go_wp2;go_ret3
   exact HFIN.out
  ·have hin:=b2x hrd;have hints:=OwnI.ints hown;obtain⟨xa,xc,rfl⟩:=ownsRow_form hown;have hf5:=HF.out.ext hE5;have hbox0:o7 (w5.alloc (.cells #[.int .u64 gen,.slice none 0 0] 50)) w5.heap.size 50 #[.int .u64 gen,.slice none 0 0]:=o7.new _ _ rfl;have hil:=hin.1;have HX:=Lib.hid hints;have HIN:=Lib.hid hin;have HE5:=Lib.hid hE5;have HF5:=Lib.hid hf5;have HM:=Lib.hid hm;have HRD:=Lib.hid hrd;clear hints hin hE5 hf5 hm hrd hown HF;go_wp2_with fail
   go_loopw [11] (fun i wr=>∃(k:Nat)(acc:List (List UInt8))(rows:List (Int×Value×Nat))(sv:Value),i=.int .i64 k/\k<=ids.length/\acc.length=k/\(∀b∈acc,b.length<=1099511627776)/\O9 l ids []=O9 l (ids.drop k) acc/\RSt wr w5.heap.size w5.heap.size gen ids acc rows sv/\Ext w5 wr) (fun i _=>ids.length - (intOf i).toNat)
   case atStart=>exact⟨0,[],[],.slice none 0 0,rfl,by omega,rfl,by simp,rfl,⟨hbox0,⟨rfl,Or.inl ⟨rfl,rfl⟩⟩,rfl,by simp⟩,(Ext.refl w5).new _⟩
   case round=>
    obtain⟨k,acc,rows,sv,rfl,hk,hal,hab,hsg,hS,hE⟩:=hrel;by_cases hlt:k<ids.length
    ·obtain⟨xb,rfl,xcell⟩:=HX.out.at hE hlt;have hr:=HIN.out.2 ids[k] (List.getElem_mem hlt);obtain⟨y,hy⟩:∃y:Nat,ids[k]=(y:Int):=⟨ids[k].toNat,by omega⟩;rw[hy] at xcell hr;have hnm:=a3S J8 y wr (by simp[J8]) (by omega);obtain⟨name,hname⟩:∃name,G5 J8 y=name:=⟨_,rfl⟩;have hdrop:ids.drop k=(y:Int)::ids.drop (k+1):=by rw[List.drop_eq_getElem_cons hlt,hy]
     rw[hdrop] at hsg;rw[hname] at hnm;have hf1:=HF5.out.ext hE;have HNA:=Lib.hid hnm;have HSG:=Lib.hid hsg;have HS:=Lib.hid hS;have HE:=Lib.hid hE;have HAB:=Lib.hid hab;have HY:=Lib.hid hy;have HNM:=Lib.hid hname;have HAL:=Lib.hid hal;have HF1:=Lib.hid hf1;clear hnm hsg hS hE hab hy hname hdrop hf1;unfold strV J8 at HNA;go_wp2_with fail
     refine HNA.out.mono ?_;rintro e w7 ⟨rfl,hE7⟩;have hfd:=b0a v l name w7 (HF1.out.ext hE7);have HFD:=Lib.hid hfd;have HE7:=Lib.hid hE7;clear hfd hE7 HNA;unfold strV at HFD;go_wp2_with fail
     refine HFD.out.mono ?_;rintro e w8 ⟨rfl,bv,rfl,hbv⟩;clear HFD;have hseg:G5 J8 ((y:Int)).toNat=name:=by rw[Int.toNat_natCast];exact HNM.out
     cases hlk:F5 l name with
     | none=>
      have hs0:O9 l ids []=(none,name):=by
       rw[HSG.out,a5M (by rw[hseg];exact hlk),hseg]
      have hro:=a06 HM.out HRD.out hs0;have hfin:a4q l w1 (.returned (.tuple #[.pointer none,.int .i64 7,.string ⟨name.toArray⟩])) w8:=
       ⟨.pointer none,by rw[hro];rfl,HE5.out.trans (HE.out.trans HE7.out),.inl ⟨by rw[hro],rfl⟩⟩
      have HFIN:=Lib.hid hfin;clear hfin hro hs0 hbv hlk hseg HSG HS;go_wp2;go_ret3
      exact HFIN.out
     | some b=>
      rw[hlk] at hbv;have hbl:=HL.out _ (a0N hlk);have hs1:O9 l ids []=O9 l (ids.drop (k+1)) (acc++[b]):=by
       rw[HSG.out,a5L (by rw[hseg];exact hlk)]
      have hrr:=b26 bv b w8 hbv hbl;have HRR:=Lib.hid hrr;have HS1:=Lib.hid hs1;have HBV:=Lib.hid hbv;have HBL:=Lib.hid hbl;obtain⟨ba,bc,rfl,hbc⟩:∃ba bc,bv=.slice ba b.length bc/\b.length<=bc:=by obtain⟨ba,bc,e,h1,_⟩:=hbv;exact⟨ba,bc,e,h1⟩
      clear hrr hs1 hbv hbl hlk hseg HSG;go_wp2_with fail
      refine HRR.out.mono ?_;rintro e w9 ⟨u,rfl,hrow,hE9⟩;obtain⟨ua,uc,rfl⟩:=ownsRow_form hrow;have hS9:=HS.out.keep (W':=w9) fun q hq=>((HE7.out.trans hE9).block q hq);have hE59:Ext w5 w9:=HE.out.trans (HE7.out.trans hE9);have hz59:=hE59.size;have hz89:w5.heap.size<=w8.heap.size:=(HE.out.trans HE7.out).size;have hrow9:=O8 hrow hz89;have xc9:=(HE7.out.trans hE9).cell xcell;obtain⟨sa,sc,hsv⟩:=ownsRow_form hS9.row;have hrl:rows.length=k:=by rw[hS9.len];exact HAL.out
      rw[hrl] at hsv;subst hsv;have hb1:=hS9.box;have hown:w9.ownsRow w5.heap.size 54 3 (.slice sa k sc) k (rows.flatMap a5J):=by have:=hS9.row;rw[hrl] at this;exact this
      have hod:(w9.drew.alloc (.cells #[.int .i64 y,.slice ua (P7 b).length uc,.int .i64 b.length] 54)).ownsRow w5.heap.size 54 3 (.slice sa k sc) k (rows.flatMap a5J):=World.ownsRow.alloc (w:=w9) hown (.cells #[.int .i64 y,.slice ua (P7 b).length uc,.int .i64 b.length] 54);have m0:=(hb1.cell 1).trans (show _=some (Value.slice sa k sc) from rfl);have mf0:=hb1.free 1;have hbF:o7 (w9.drew.alloc (.cells #[.int .i64 y,.slice ua (P7 b).length uc,.int .i64 b.length] 54)) w5.heap.size 50 #[.int .u64 gen,.slice sa k sc]:=o7.alloc (w:=w9.drew) hb1 _;have hne:(Value.slice sa k sc).ownBlock≠some w5.heap.size:=F9 hown hb1 (by decide);have hlt0:w5.heap.size<w9.heap.size:=hb1.lt;have HS9:=Lib.hid hS9;have HE59:=Lib.hid hE59;have HR9:=Lib.hid hrow9;have HBF:=Lib.hid hbF;have HNE:=Lib.hid hne;have HOW:=Lib.hid hown;have HRL:=Lib.hid hrl;clear hS9 hE59 hrow9 hrow hb1 hbF hne hown hrl xcell hE9 HRR HE7 HE HS HF1;go_wp2_with fail
      go_region_law (refine step_append_lies _ (by rfl) _ _ _ (by rfl) w5.heap.size 54 i0 (.agg #[.int .i64 0,.slice none 0 0,.int .i64 0]) 3 40 Tryz.underlying48 hi0 hz0 hz1 hz2 rfl (by omega) (.slice sa k sc) k _ (by rfl) hod ⟨w9.heap.size,0,none⟩ 1 1 [.int .i64 y,.slice ua (P7 b).length uc,.int .i64 b.length] (by rfl) (by rfl) (World.news_of_block (cs:=#[.int .i64 y,.slice ua (P7 b).length uc,.int .i64 b.length]) (t:=54) (fr:=(0,0)) (heap_alloc_new w9.drew _)) (by simp[Value.oneCell']) (by omega) (by unfold maxLen;omega) (by omega) (by simp;omega) (w9.heap.size+1) (by simp) ?_;intro gg cap6 w6 hown6 hgrow6 hat6 hlt6;have hb6:=HBF.out.grown' hgrow6 HNE.out;have m6:=(hb6.cell 1).trans (show _=some (Value.slice sa k sc) from rfl);have mf6:=hb6.free 1;have HB6:=Lib.hid hb6;have HO6:=Lib.hid hown6;have HG6:=Lib.hid hgrow6;clear hb6 hown6 hgrow6)
      all_goals
       go_wp2;go_roundw
       case rel=>
        have hne6:(Value.slice (some ⟨gg,0,none⟩) (k+1) cap6).ownBlock≠some w5.heap.size:=F9 HO6.out HB6.out (by decide);have hfin:∀q,q<w9.heap.size->(Value.slice sa k sc).ownBlock≠some q->q≠w5.heap.size->(w6.setCell ⟨w5.heap.size,1,none⟩ (.slice (some ⟨gg,0,none⟩) (k+1) cap6)).heap[q]?=w9.heap[q]?:=fun q h1 h2 h3=>
         (Below.heap_setCell _ _ _ _ h3).trans ((HG6.out.block q (by simp;omega) (fun e=>h2 e.symm)).trans (heap_alloc_old w9.drew _ h1))
        have hrk:∀(n:Nat)(vv:Value)(xs:List Value),w9.ownsRow w5.heap.size 116 5 vv n xs->(w6.setCell ⟨w5.heap.size,1,none⟩ (.slice (some ⟨gg,0,none⟩) (k+1) cap6)).ownsRow w5.heap.size 116 5 vv n xs:=fun n vv xs h=>
         Dep.row h _ fun q hq=>hfin q (World.ownsRow.lt h q hq).2 (a1l h HOW.out (by decide) hq) (fun e=>F9 h HS9.out.box (by decide) (e▸hq))
        refine⟨k+1,acc++[b],rows++[((y:Int),.slice ua (P7 b).length uc,b.length)],_,by go_num,by omega,by rw[List.length_append,HAL.out];rfl,fun b' hb'=>?_,HS1.out,⟨by simpa using HB6.out.set 1 _,?_,?_,fun i p hp=>?_⟩,?_⟩
        ·rcases List.mem_append.1 hb' with h|h
         ·exact HAB.out b' h
         ·obtain rfl:b'=b:=by simpa using h
          exact HBL.out
        ·have:=ownsRow_setCell_other (a:=⟨w5.heap.size,1,none⟩) HO6.out hne6 (.slice (some ⟨gg,0,none⟩) (k+1) cap6);rw[List.length_append,HRL.out,List.flatMap_append];simpa [a5J] using this
        ·rw[List.length_append,List.length_append,HRL.out,HAL.out];rfl
        ·by_cases hi:i<k
         ·rw[List.getElem?_append_left (by rw[HRL.out];exact hi)] at hp;obtain⟨s1,s2,s3⟩:=HS9.out.seg i p hp;have e:(acc++[b]).getD i []=acc.getD i []:=by
           rw[List.getD_eq_getElem?_getD,List.getD_eq_getElem?_getD,List.getElem?_append_left (by rw[HAL.out];exact hi)]
          rw[e];exact⟨s1,s2,hrk _ _ _ s3⟩
         ·rw[List.getElem?_append_right (by rw[HRL.out];omega)] at hp;have e0:i - rows.length=0:=by
           rcases Nat.eq_zero_or_pos (i - rows.length) with e|e
           ·exact e
           ·rw[List.getElem?_eq_none (by simp;omega)] at hp;cases hp
          rw[e0] at hp;simp at hp;subst hp;have hik:i=k:=by have:=HRL.out;omega
          subst hik;have e:(acc++[b]).getD i []=b:=by
           rw[List.getD_eq_getElem?_getD,List.getElem?_append_right (by rw[HAL.out];exact Nat.le_refl _),HAL.out];simp
          rw[e];refine⟨?_,rfl,hrk _ _ _ HR9.out⟩;rw[List.getD_eq_getElem?_getD,List.getElem?_eq_getElem hlt,HY.out];rfl
        ·refine Ext.setN ?_ (by simp);exact Below.grown ((Ext.trans HE59.out (Below.drew (Ext.refl w9))).new (.cells #[.int .i64 y,.slice ua (P7 b).length uc,.int .i64 b.length] 54)) HG6.out (by simp;omega) (fun j hj=>(HOW.out.lt j hj).1)
       case measure=>simp[intOf];omega
    ·obtain rfl:k=ids.length:=by omega
     have hst:=hS.new hal (Nat.le_refl _) HE5.out.size;have hsg2:O9 l ids []=(some acc,[]):=by rw[hsg,List.drop_length];rfl
     have hro:=a2g HM.out HRD.out hsg2;have hfin:a4q l w1 (.returned (.tuple #[.pointer (some ⟨w5.heap.size,0,none⟩),.int .i64 0,.string ⟨#[]⟩])) wr:=by
      refine⟨y8 w5.heap.size,by rw[hro];rfl,HE5.out.trans hE,.inr ⟨gen,ids,acc,w5.heap.size,by rw[hro],HIN.out,fun i=>?_,rfl,HE5.out.size,hst⟩⟩;rw[List.getD_eq_getElem?_getD]
      cases e:acc[i]? with
      | none=>simp
      | some b=>exact hab b (List.mem_of_getElem? e)
     have HFIN:=Lib.hid hfin;clear hfin hst hsg hsg2 hro hS hE hab;go_wp2;go_ret3
     exact HFIN.out
end
section
open Go.RowKit Go.Lib Go.Maps Dk Pl
def b2Y(ids vs:List Int)(i:Nat):Bool:=ids.contains (vs.getD i 0)&&!(vs.take i).contains (vs.getD i 0)
def a0g(ids vs:List Int):Bool:=decide (0<vs.length)&&(List.range vs.length).all (b2Y ids vs)
theorem a1q(l:List Int)(x y:Int):(l++[x]).contains y=(l.contains y||x==y):=by
 rw[Bool.eq_iff_iff,Bool.or_eq_true,List.contains_iff_mem,List.contains_iff_mem,List.mem_append,List.mem_singleton,beq_iff_eq];exact⟨Or.imp id Eq.symm,Or.imp id Eq.symm⟩
theorem takeD_snoc{l:List Int}{k:Nat}(hk:k<l.length):l.take (k+1)=l.take k++[l.getD k 0]:=by
 rw[List.take_add_one,List.getElem?_eq_getElem hk,List.getD_eq_getElem?_getD,List.getElem?_eq_getElem hk];rfl
def b2Z(ids vs:List Int)(w:World)(e:Ending)(w':World):Prop:=e=.returned (.int .i64 (if a0g ids vs=true then 0 else 8))/\Ext w w'
theorem b4D(rb gen:Nat)(ids:List Int)(bss:List (List UInt8))(v:Value)(vs:List Int)(w:World)(h:a4c w rb gen ids bss)(hv:Ints w v vs)(hn:ids.length<=60)(hl:vs.length<=300):
 Calls Tryz.prog 37 #[y8 rb,v] w (b2Z ids vs w):=by
 obtain⟨sa,sc,hb,hsc,hsc2,hbl,hsegs⟩:=id h;obtain⟨va,vc,rfl,hvc,hvc2,-⟩:=hv.open;obtain⟨n,hnn⟩:∃n,ids.length=n:=⟨_,rfl⟩;obtain⟨m,hmm⟩:∃m,vs.length=m:=⟨_,rfl⟩;have b1:=(hb.cell 1).trans (show _=some (Value.slice sa ids.length sc) from rfl);have HV:=Lib.hid hv;have HSG:=Lib.hid hsegs;have HN:=Lib.hid hnn;have HM:=Lib.hid hmm;rw[hnn] at b1 hsc hn;rw[hmm] at hvc hl⊢;clear h hsegs hv hnn hmm hb hbl;unfold y8;go_enter Tryz.func37,Tryz.ntmps37
 by_cases h0:m=0
 ·have hfin:∀w',Ext w w'->b2Z ids vs w (.returned (.int .i64 8)) w':=fun w' hE=>by
   have:a0g ids vs=false:=by unfold a0g;rw[HM.out,h0];rfl
   exact⟨by rw[this];rfl,hE⟩
  have HF:=Lib.hid hfin;clear hfin;go_wp2_with fail
  exact bodyPost_ret (v:=.int .i64 8) (by simp[results,Tryz.results37]) rfl (HF.out _ (Ext.refl w))
 have h1:¬((m:Int)=0):=by omega
 go_wp2_with fail
 go_loopw [5] (fun i wr=>∃k:Nat,i=.int .i64 k/\k<=m/\(∀j,j<k->b2Y ids vs j=true)/\Ext w wr) (fun i _=>m - (intOf i).toNat)
 case atStart=>exact⟨0,rfl,by omega,fun j hj=>absurd hj (by omega),Ext.refl w⟩
 case round=>
  obtain⟨k,rfl,hk,hall,hE⟩:=hrel;by_cases hlt:k<m
  ·obtain⟨vb,rfl,vcell⟩:=HV.out.at hE (k:=k) (by rw[HM.out];exact hlt);obtain⟨x,hx⟩:∃x,vs[k]'(by rw[HM.out];exact hlt)=x:=⟨_,rfl⟩;have hxd:vs.getD k 0=x:=by rw[List.getD_eq_getElem?_getD,List.getElem?_eq_getElem (by rw[HM.out];exact hlt)];exact hx
   rw[hx] at vcell;have b1r:=hE.cell b1;have hki:(k:Int)<(m:Int):=by omega
   have HALL:=Lib.hid hall;have HE:=Lib.hid hE;have HX:=Lib.hid hxd;clear hall hE hx hxd;go_wp2_with fail
   go_loopw [6,7] (fun t i wi=>∃j:Nat,i=.int .i64 j/\j<=n/\t=.bool ((ids.take j).contains x)/\Ext wr wi) (fun _ i _=>n - (intOf i).toNat)
   case atStart=>exact⟨0,rfl,by omega,by simp,Ext.refl wr⟩
   case round=>
    rename World=>wi
    obtain⟨j,rfl,hj,rfl,hEi⟩:=hrel;have b1i:=hEi.cell b1r;have vci:=hEi.cell vcell;by_cases hjn:j<n
    ·obtain⟨g,rfl,s0,-⟩:=HSG.out j (by rw[HN.out];exact hjn);have s0i:=(HE.out.trans hEi).cell s0;obtain⟨y,hy⟩:∃y,ids.getD j 0=y:=⟨_,rfl⟩;rw[hy] at s0i;have hts:(ids.take (j+1)).contains x=((ids.take j).contains x||y==x):=by
      rw[takeD_snoc (by rw[HN.out];exact hjn),a1q,hy]
     have hjni:(j:Int)<(n:Int):=by omega
     have HTS:=Lib.hid hts;have HEI:=Lib.hid hEi;clear hts hEi s0 hy
     cases hc:(ids.take j).contains x with
     | true=>
      have HC:=Lib.hid hc;clear hc;go_wp2_with fail
      go_quiet (fail)
      go_wp2_with fail
      go_roundw
      case rel=>exact⟨j+1,by go_num,by omega,by rw[HTS.out,HC.out];rfl,HEI.out.trans (Ext.drewN _ _)⟩
      case measure=>simp[intOf];omega
     | false=>
      have HC:=Lib.hid hc;clear hc;go_wp2_with fail
      go_quiet (fail)
      go_wp2_with fail
      go_roundw
      case rel=>exact⟨j+1,by go_num,by omega,by rw[HTS.out,HC.out,Bool.false_or],HEI.out.trans (Ext.drewN _ _)⟩
      case measure=>simp[intOf];omega
    ·obtain rfl:j=n:=by omega
     have hin:(ids.take j).contains x=ids.contains x:=by rw[List.take_of_length_le (by rw[HN.out];exact Nat.le_refl _)]
     rw[hin];have HEI:=Lib.hid hEi;clear hEi hin;obtain⟨wj,hwj⟩:∃wj,wj=wi:=⟨_,rfl⟩;rw[<-hwj] at HEI vci b1i⊢;clear hwj wi;go_wp2_with fail
     go_loopw [6,8] (fun t i wi=>∃q:Nat,i=.int .i64 q/\q<=k/\t=.bool (ids.contains x&&!(vs.take q).contains x)/\Ext wj wi) (fun _ i _=>k - (intOf i).toNat)
     case atStart=>exact⟨0,rfl,by omega,by simp,Ext.refl wj⟩
     case round=>
      rename World=>wi
      obtain⟨q,rfl,hq,rfl,hEq⟩:=hrel;have vcq:=hEq.cell vci;by_cases hqk:q<k
      ·obtain⟨vb2,e2,qcell⟩:=HV.out.at (HE.out.trans (HEI.out.trans hEq)) (k:=q) (by rw[HM.out];omega);injection e2 with e2;subst e2;obtain⟨y,hy⟩:∃y,vs[q]'(by rw[HM.out];omega)=y:=⟨_,rfl⟩;have hyd:vs.getD q 0=y:=by rw[List.getD_eq_getElem?_getD,List.getElem?_eq_getElem (by rw[HM.out];omega)];exact hy
       rw[hy] at qcell;have hts:(vs.take (q+1)).contains x=((vs.take q).contains x||y==x):=by
        rw[takeD_snoc (by rw[HM.out];omega),a1q,hyd]
       have hqki:(q:Int)<(k:Int):=by omega
       have hqm:(q:Int)<(m:Int):=by omega
       have HTS:=Lib.hid hts;have HEQ:=Lib.hid hEq;clear hts hEq hy hyd
       cases hc:(ids.contains x&&!(vs.take q).contains x) with
       | true=>
        have HC:=Lib.hid hc;clear hc;go_wp2_with fail
        go_quiet (fail)
        go_wp2_with fail
        go_roundw
        case rel=>
         refine⟨q+1,by go_num,by omega,?_,HEQ.out.trans (Ext.drewN _ _)⟩;have hc:=HC.out;simp only[Bool.and_eq_true,Bool.not_eq_true'] at hc;rw[HTS.out,hc.1,hc.2,Bool.false_or,Bool.true_and];rfl
        case measure=>simp[intOf];omega
       | false=>
        have HC:=Lib.hid hc;clear hc;go_wp2_with fail
        go_quiet (fail)
        go_wp2_with fail
        go_roundw
        case rel=>
         refine⟨q+1,by go_num,by omega,?_,HEQ.out.trans (Ext.drewN _ _)⟩;have hc:=HC.out;rw[HTS.out];rcases Bool.and_eq_false_iff.1 hc with h|h
         ·rw[h];rfl
         ·have h2:(vs.take q).contains x=true:=by simpa using h
          rw[h2];simp
        case measure=>simp[intOf];omega
      ·obtain rfl:q=k:=by omega
       have hok:(ids.contains x&&!(vs.take q).contains x)=b2Y ids vs q:=by unfold b2Y;rw[HX.out]
       rw[hok];have HEQ:=Lib.hid hEq;clear hEq hok
       cases hc:b2Y ids vs q with
       | true=>
        have HC:=Lib.hid hc;clear hc;go_wp2_with fail
        go_roundw
        case rel=>
         refine⟨q+1,by go_num,by omega,fun j hj=>?_,HE.out.trans (HEI.out.trans HEQ.out)⟩;rcases Nat.lt_or_ge j q with h|h
         ·exact HALL.out j h
         ·obtain rfl:j=q:=by omega
          exact HC.out
        case measure=>simp[intOf];omega
       | false=>
        have hfin:∀w',Ext w w'->b2Z ids vs w (.returned (.int .i64 8)) w':=fun w' hE=>by
         have:a0g ids vs=false:=by
          cases hch:a0g ids vs with
          | false=>rfl
          | true=>
           unfold a0g at hch;rw[Bool.and_eq_true,List.all_eq_true] at hch;have:=hch.2 q (List.mem_range.2 (by rw[HM.out];omega));rw[hc] at this;cases this
         exact⟨by rw[this];rfl,hE⟩
        have HF:=Lib.hid hfin;clear hfin hc;go_wp2_with fail
        exact bodyPost_ret (v:=.int .i64 8) (by simp[results,Tryz.results37]) rfl (HF.out _ (HE.out.trans (HEI.out.trans HEQ.out)))
  ·obtain rfl:k=m:=by omega
   have hfin:∀w',Ext w w'->b2Z ids vs w (.returned (.int .i64 0)) w':=fun w' hE=>by
    have:a0g ids vs=true:=by
     unfold a0g;rw[HM.out,Bool.and_eq_true,List.all_eq_true];exact⟨decide_eq_true (by omega),fun j hj=>hall j (List.mem_range.1 hj)⟩
    exact⟨by rw[this];rfl,hE⟩
   have HF:=Lib.hid hfin;have HE:=Lib.hid hE;clear hfin hall hE;go_wp2_with fail
   exact bodyPost_ret (v:=.int .i64 0) (by simp[results,Tryz.results37]) rfl (HF.out _ HE.out)
end
section
open Go.RowKit Go.Lib Go.Maps Dk
namespace Dk
structure D.Built(d:D)(k:Nat):Prop where
 calm:d.Calm
 nodup:(d.now.map (·.1)).Nodup
 safe:d.safe=[]
 same:a4k (d.moves.foldl D5 []) d.now
 synced:∀x∈d.ids,(d.node x).safe=(d.node x).data.length
 bound:∀x∈d.ids,(d.node x).data.length<=1099511627776
 room:d.room=1099511627776
 named:∀p∈d.now,p.2∈d.ids
 names:∀p∈d.now,p.1.length<=1000000
 len:d.now.length<=k
 mlen:d.moves.length<=k
 mnames:∀l∈d.moves,l.length<=1000000/\∀m∈l,m.1.length<=1000000
theorem b8y{α β:Type}[DecidableEq α](l:List (α×β))(x:α)(y:β):(a1d l x y).length<=l.length+1:=by
 unfold a1d;split<;>simp
theorem D.Built.empty:(⟨[],[],[],1099511627776,0,0,[],fun _=>⟨[],0⟩⟩:D).Built 0:=
 ⟨⟨rfl,rfl⟩,by simp,rfl,fun _=>rfl,by simp,by simp,rfl,by simp,by simp,by simp,by simp,by simp⟩
theorem D.Built.more{d:D}{k m:Nat}(h:d.Built k)(hk:k<=m):d.Built m:=
 {h with len:=Nat.le_trans h.len hk,mlen:=Nat.le_trans h.mlen hk}
theorem D.Built.create{d:D}{k:Nat}(h:d.Built k){n:Nm}{x:Nat}(hx:x∉d.ids)(hn:n.length<=1000000):(d.create n x).2.Built (k+1):=by
 have e1:d.fails=(false,d):=h.calm.fails;unfold D.create;rw[e1];dsimp only;rw[if_neg (by simp)];by_cases hs:(F5 d.now n).isSome=true
 ·rw[if_pos hs];exact h.more (Nat.le_succ k)
 ·rw[if_neg hs];have hu:∀y∈d.ids,upd d.node x ⟨[],0⟩ y=d.node y:=fun y hy=>by
   unfold upd;rw[if_neg (show ¬y=x from fun e=>hx (e▸hy))]
  have hux:upd d.node x ⟨[],0⟩ x=⟨[],0⟩:=by unfold upd;rw[if_pos rfl]
  refine⟨h.calm,a0V _ h.nodup,h.safe,?_,?_,?_,h.room,?_,?_,?_,?_,?_⟩
  ·show a4k ((d.moves++[[(n,some x)]]).foldl D5 []) (D5 d.now [(n,some x)]);rw[List.foldl_append];exact a4D _ h.same
  ·intro y hy;show(upd d.node x ⟨[],0⟩ y).safe=(upd d.node x ⟨[],0⟩ y).data.length;rcases List.mem_append.1 hy with hy|hy
   ·rw[hu y hy];exact h.synced y hy
   ·simp at hy;subst hy;rw[hux];rfl
  ·intro y hy;show(upd d.node x ⟨[],0⟩ y).data.length<=_;rcases List.mem_append.1 hy with hy|hy
   ·rw[hu y hy];exact h.bound y hy
   ·simp at hy;subst hy;rw[hux];simp
  ·intro p hp;show p.2∈d.ids++[x];rcases a5s (show p∈a1d d.now n x from hp) with rfl|hp
   ·simp
   ·exact List.mem_append.2 (.inl (h.named p hp))
  ·intro p hp;rcases a5s (show p∈a1d d.now n x from hp) with rfl|hp
   ·exact hn
   ·exact h.names p hp
  ·have:=b8y d.now n x;have:=h.len;show(a1d d.now n x).length<=k+1;omega
  ·show(d.moves++[[(n,some x)]]).length<=k+1;have:=h.mlen;simp;omega
  ·intro l hl;rcases List.mem_append.1 (show l∈d.moves++[[(n,some x)]] from hl) with hl|hl
   ·exact h.mnames l hl
   ·simp at hl;subst hl;exact⟨by simp,fun m hm=>by simp at hm;subst hm;exact hn⟩
theorem D.Calm.append{d:D}(h:d.Calm)(n:Nm)(b:List UInt8):d.append n b=match F5 d.now n with|none=>(.file 11 n,d)|some x=>if d.room - d.used<b.length then(.file 10 n,d) else(.ok,d.setNode x {d.node x with data:=(d.node x).data++b}):=by
 unfold D.append;rw[h.find];cases F5 d.now n<;>rfl
theorem D.Calm.sync{d:D}(h:d.Calm)(n:Nm):d.sync n=match F5 d.now n with|none=>(.file 11 n,d)|some x=>(.ok,d.setNode x {d.node x with safe:=(d.node x).data.length}):=by
 unfold D.sync;rw[h.find];cases F5 d.now n<;>rfl
theorem c3f{α:Type}{f:α->Nat}{l:List α}{p:α}(h:p∈l):f p<=(l.map f).sum:=by
 induction l with
 | nil=>cases h
 | cons q l ih=>
  rw[List.map_cons,List.sum_cons];rcases List.mem_cons.1 h with rfl|h
  ·omega
  ·have:=ih h;omega
theorem c1g{d:D}{p:Nm×Nat}(hp:p∈d.now):(d.node p.2).data.length<=d.used:=by
 unfold D.used;exact c3f (f:=fun p=>(d.node p.2).data.length) hp
theorem D.Built.node{d:D}{k:Nat}(h:d.Built k){x:Nat}{y:Nd}(hy:y.safe=y.data.length)(hb:y.data.length<=1099511627776):(d.setNode x y).Built k:=by
 refine⟨h.calm,h.nodup,h.safe,h.same,?_,?_,h.room,h.named,h.names,h.len,h.mlen,h.mnames⟩
 ·intro z hz;show(upd d.node x y z).safe=(upd d.node x y z).data.length;unfold upd;split
  ·exact hy
  ·exact h.synced z hz
 ·intro z hz;show(upd d.node x y z).data.length<=_;unfold upd;split
  ·exact hb
  ·exact h.bound z hz
theorem D.Built.sync{d:D}{k:Nat}(h:d.Built k)(n:Nm):(d.sync n).2.Built k:=by
 rw[h.calm.sync]
 cases e:F5 d.now n with
 | none=>exact h
 | some x=>exact h.node rfl (h.bound x (h.named _ (a0N e)))
theorem a7w(d:D)(x:Nat)(y z:Nd):(d.setNode x y).setNode x z=d.setNode x z:=by
 unfold D.setNode;congr 1
 funext i
 show upd (upd d.node x y) x z i=upd d.node x z i;unfold upd;split<;>rfl
theorem D.Built.appendSync{d:D}{k:Nat}(h:d.Built k)(n:Nm)(b:List UInt8):((d.append n b).2.sync n).2.Built k:=by
 rw[h.calm.append]
 cases e:F5 d.now n with
 | none=>exact h.sync n
 | some x=>
  dsimp only;by_cases hr:d.room - d.used<b.length
  ·rw[if_pos hr];exact h.sync n
  ·rw[if_neg hr];have hc:(d.setNode x {d.node x with data:=(d.node x).data++b}).Calm:=h.calm;rw[hc.sync];have e':F5 (d.setNode x {d.node x with data:=(d.node x).data++b}).now n=some x:=e;rw[e'];dsimp only;rw[a7w];have hu:(d.setNode x {d.node x with data:=(d.node x).data++b}).node x={d.node x with data:=(d.node x).data++b}:=by
    show upd d.node x _ x=_;unfold upd;rw[if_pos rfl]
   refine h.node ?_ ?_
   ·rw[hu]
   ·rw[hu];show((d.node x).data++b).length<=_;rw[List.length_append];have:=c1g (a0N e);have:=h.room;dsimp only at *;omega
theorem D.Built.syncDir{d:D}{k:Nat}(h:d.Built k):∃e:D,d.syncDir=(.ok,e)/\e.Safe/\e.now=d.now/\e.ids=d.ids/\e.node=d.node:=by
 refine⟨_,h.calm.syncDir,⟨h.calm,rfl,?_,h.nodup,?_,?_⟩,rfl,rfl,rfl⟩
 ·show a4k (d.moves.foldl D5 d.safe) d.now;rw[h.safe];exact h.same
 ·show((d.moves.foldl D5 d.safe).map (·.1)).Nodup;rw[h.safe];exact a3A _ (by simp)
 ·intro p hp;have hp':p∈d.moves.foldl D5 []:=by
   have:p∈d.moves.foldl D5 d.safe:=hp;rwa [h.safe] at this
  have hn:((d.moves.foldl D5 []).map (·.1)).Nodup:=a3A _ (by simp);have e1:=b03 hn hp';rw[h.same] at e1;exact h.synced _ (h.named _ (a0N e1))
end Dk
end
section
open Go.RowKit Go.Lib Go.Maps Dk Pl
theorem b2E(er:Er)(v:Value)(w:World)(h:ErrAt w v er)(hl:Laid w):
 Calls Tryz.prog 15 #[v] w fun e w'=>e=.returned (.tuple #[.int .i64 er.code,strV er.name])/\Ext w w':=by
 cases er with
 | ok=>subst h;exact c0o w
 | num n=>subst h;exact c0p n w hl
 | file n nm=>
  obtain⟨b,rfl,hb⟩:=h;exact b7x ⟨b,0,none⟩ ⟨nm.toArray⟩ n w hl ((hb.cell 0).trans rfl) ((hb.cell 1).trans rfl)
theorem b89(n:Int)(w:World):Calls Tryz.prog 47 #[.int .i64 n] w fun e w'=>∃k:Nat,e=.returned (.int .i64 k)/\1<=k/\k<=999999/\w'=w:=by
 go_enter Tryz.func47,Tryz.ntmps47
 go_wp2;obtain⟨m,hm⟩:∃m,IntKind.u64.wrap (wrap64 (n - 1))=m:=⟨_,rfl⟩;have hm0:0<=m:=by rw[<-hm];exact Int.emod_nonneg _ (by decide)
 have hmod:m.tmod 999999=m%999999:=Int.tmod_eq_emod_of_nonneg hm0;have h1:0<=m%999999:=Int.emod_nonneg _ (by decide);have h2:m%999999<999999:=Int.emod_lt_of_pos _ (by decide);have h3:wrap64 (m%999999)=m%999999:=by unfold wrap64;omega
 have h4:wrap64 (1+m%999999)=((1+(m%999999).toNat:Nat):Int):=by unfold wrap64;omega
 rw[hm,hmod,h3,h4];go_ret;exact⟨_,rfl,by omega,by omega,rfl⟩
def b1g(F:Nat->Prop)(a:Nat)(k:Nat)(w:World)(e:Ending)(w':World):Prop:=
 e=.returned (.tuple #[])/\∃F' d,A8 w' F' a d/\d.Built k/\Chg F F' w w'/\∀b,F b->F' b
theorem a5r(F:Nat->Prop)(a:Nat)(d:D)(k:Nat)(name:Nm)(u:Value)(l:List UInt8)(w:World)(h:A8 w F a d)(hb:d.Built k)(hk:k<=32000)(hn:name.length<=1000000)
 (hu:Held w F (fun W=>Bytes W u l))(hl:l.length<=35184372088832)(hL:Held w F Laid):
 Calls Tryz.prog 50 #[y8 a,strV name,u] w (b1g F a (k+1) w):=by
 have hcr:=b3L F a d name w h (by unfold maxLen;omega) (by have:=hb.mlen;omega);obtain⟨ua,uc,rfl,huc,huc',-⟩:=hu.get.open;have HCR:=Lib.hid hcr;have HB:=Lib.hid hb;have HU:=Lib.hid hu;have HL:=Lib.hid hL;clear hcr hb hu hL h;unfold y8 strV at *;go_enter Tryz.func50,Tryz.ntmps50
 go_wp2_with fail
 refine HCR.out.mono ?_;rintro e w1 ⟨x,hx,F1,v1,rfl,hv1,hD1,hC1,hF1⟩;have hb1:=HB.out.create hx hn;have hL1:=HL.out.step hC1;have htell:=b2E _ v1 w1 hv1.get hL1.get;obtain⟨d1,hd1⟩:∃d1,(d.create name x).2=d1:=⟨_,rfl⟩;obtain⟨er,her⟩:∃er,(d.create name x).1=er:=⟨_,rfl⟩;rw[hd1] at hb1 hD1;rw[her] at htell;have HT:=Lib.hid htell;have HB1:=Lib.hid hb1;have HC1:=Lib.hid hC1;have HF1:=Lib.hid hF1;have HD1:=Lib.hid hD1;have HU1:=Lib.hid (HU.out.step hC1);clear htell hb1 hC1 hF1 hv1 hL1 hd1 her hx hD1 HCR HL;unfold strV at HT;go_wp2_with fail
 refine HT.out.mono ?_;rintro e w2 ⟨rfl,hE2⟩;have HE2:=Lib.hid hE2;clear hE2;by_cases hc:er.code=0
 ·have hap:=b3N F1 a d1 name (.slice ua l.length uc) l w2 (HD1.out.ext HE2.out) (HU1.out.ext HE2.out) (by unfold maxLen;omega) hl (fun x hx=>by have:=HB1.out.bound x hx;omega) (by have:=HB1.out.len;omega);have HAP:=Lib.hid hap;clear hap;unfold y8 strV at HAP;go_wp2_with fail
  refine HAP.out.mono ?_;rintro e w3 ⟨F3,v3,rfl,hv3,hD3,hC3,hF3⟩;have hsy:=b8M F3 a _ name w3 hD3 (by unfold maxLen;omega);have HSY:=Lib.hid hsy;have HC3:=Lib.hid hC3;have HF3:=Lib.hid hF3;clear hsy hC3 hF3 hv3 hD3 HAP;unfold y8 strV at HSY;go_wp2_with fail
  refine HSY.out.mono ?_;rintro e w4 ⟨F4,v4,rfl,hv4,hD4,hC4,hF4⟩;have hfin:b1g F a (k+1) w (.returned (.tuple #[])) w4:=⟨rfl,F4,_,hD4,HB1.out.appendSync name l,((HC1.out.trans (Chg.ext HE2.out)).trans HC3.out).trans hC4,fun b hb=>hF4 b (HF3.out b (HF1.out b hb))⟩;have HF:=Lib.hid hfin;clear hfin hD4 hC4 hF4 hv4;go_wp2;go_end0
  exact HF.out
 ·have hfin:b1g F a (k+1) w (.returned (.tuple #[])) w2:=⟨rfl,F1,d1,HD1.out.ext HE2.out,HB1.out,HC1.out.trans (Chg.ext HE2.out),HF1.out⟩;have HF:=Lib.hid hfin;clear hfin;go_wp2;go_end0
  exact HF.out
end
section
open Go.RowKit Go.Lib Go.Maps Dk Pl
structure Rc where
 seq:Nat
 key:ByteArray
 val:ByteArray
 del:Bool
structure Sg where
 id:Int
 recs:List Rc
 tail:List UInt8
 listed:Bool
 gone:Bool
structure Ot where
 name:ByteArray
 hint:Int
 bytes:List UInt8
structure Dr where
 segs:List Sg
 others:List Ot
 gen:Nat
 spoilt:List UInt8
 whole:Bool
 without:Bool
def RowOf{α:Type}(w:World)(v:Value)(l:List α)(sz:Nat)(at_:World->Addr->α->Prop):Prop:=
 ∃a cap,v=.slice a l.length cap/\l.length<=cap/\cap<=9223372036854775807/\∀i x,l[i]?=some x->∃b,a=some b/\at_ w (b.add (i*sz)) x
def b07(w:World)(b:Addr)(r:Rc):Prop:=
 w.cell? b=some (.int .u64 r.seq)/\w.cell? ⟨b.block,b.off+1,none⟩=some (.string r.key)/\w.cell? ⟨b.block,b.off+2,none⟩=some (.string r.val)/\w.cell? ⟨b.block,b.off+3,none⟩=some (.bool r.del)
def a9j(w:World)(b:Addr)(s:Sg):Prop:=
 ∃v1 v2,w.cell? b=some (.int .i64 s.id)/\w.cell? ⟨b.block,b.off+1,none⟩=some v1/\w.cell? ⟨b.block,b.off+2,none⟩=some v2/\w.cell? ⟨b.block,b.off+3,none⟩=some (.bool s.listed)/\w.cell? ⟨b.block,b.off+4,none⟩=some (.bool s.gone)/\
  RowOf w v1 s.recs 4 b07/\Bytes w v2 s.tail
def b08(w:World)(b:Addr)(s:Ot):Prop:=
 ∃v2,w.cell? b=some (.string s.name)/\w.cell? ⟨b.block,b.off+1,none⟩=some (.int .i64 s.hint)/\w.cell? ⟨b.block,b.off+2,none⟩=some v2/\Bytes w v2 s.bytes
def b09(w:World)(v:Value)(d:Dr):Prop:=
 ∃v0 v1 v3,v=.agg #[v0,v1,.int .u64 d.gen,v3,.bool d.whole,.bool d.without]/\RowOf w v0 d.segs 5 a9j/\RowOf w v1 d.others 3 b08/\Bytes w v3 d.spoilt
theorem RowOf.ext{α:Type}{w w':World}{v:Value}{l:List α}{sz:Nat}{at_:World->Addr->α->Prop}(h:RowOf w v l sz at_)(hat:∀b x,at_ w b x->at_ w' b x):RowOf w' v l sz at_:=by
 obtain⟨a,cap,rfl,h1,h2,h3⟩:=h;refine⟨a,cap,rfl,h1,h2,fun i x hx=>?_⟩;obtain⟨b,rfl,hb⟩:=h3 i x hx;exact⟨b,rfl,hat _ _ hb⟩
theorem b07.ext{w w':World}{b:Addr}{r:Rc}(hE:Ext w w')(h:b07 w b r):b07 w' b r:=⟨hE.cell h.1,hE.cell h.2.1,hE.cell h.2.2.1,hE.cell h.2.2.2⟩
theorem a9j.ext{w w':World}{b:Addr}{r:Sg}(hE:Ext w w')(h:a9j w b r):a9j w' b r:=by
 obtain⟨v1,v2,h0,h1,h2,h3,h4,h5,h6⟩:=h;exact⟨v1,v2,hE.cell h0,hE.cell h1,hE.cell h2,hE.cell h3,hE.cell h4,h5.ext fun _ _=>b07.ext hE,h6.ext hE⟩
theorem b08.ext{w w':World}{b:Addr}{r:Ot}(hE:Ext w w')(h:b08 w b r):b08 w' b r:=by
 obtain⟨v2,h0,h1,h2,h3⟩:=h;exact⟨v2,hE.cell h0,hE.cell h1,hE.cell h2,h3.ext hE⟩
theorem b09.ext{w w':World}{v:Value}{d:Dr}(h:b09 w v d)(hE:Ext w w'):b09 w' v d:=by
 obtain⟨v0,v1,v3,rfl,h0,h1,h3⟩:=h;exact⟨v0,v1,v3,rfl,h0.ext fun _ _=>a9j.ext hE,h1.ext fun _ _=>b08.ext hE,h3.ext hE⟩
theorem RowOf.form{α:Type}{w:World}{v:Value}{l:List α}{sz:Nat}{at_:World->Addr->α->Prop}(h:RowOf w v l sz at_):∃a cap,v=.slice a l.length cap/\l.length<=cap/\cap<=9223372036854775807:=by
 obtain⟨a,cap,rfl,h1,h2,_⟩:=h;exact⟨a,cap,rfl,h1,h2⟩
theorem RowOf.at{α:Type}{w:World}{a:Option Addr}{cap:Nat}{l:List α}{sz:Nat}{at_:World->Addr->α->Prop}(h:RowOf w (.slice a l.length cap) l sz at_){i:Nat}{x:α}(hx:l[i]?=some x):∃b,a=some b/\at_ w (b.add (i*sz)) x:=by
 obtain⟨a',cap',e,_,_,h3⟩:=h;injection e with e1;subst e1;exact h3 i x hx
structure Dr.Small(d:Dr):Prop where
 segs:d.segs.length<=60
 others:d.others.length<=300
 spoilt:d.spoilt.length<=40000
 tail:∀s∈d.segs,s.tail.length<=40000
 recs:∀s∈d.segs,s.recs.length<=2000/\∀r∈s.recs,r.key.size<=40000/\r.val.size<=40000
 other:∀s∈d.others,s.name.size<=40000/\s.bytes.length<=40000
structure Dr.Fits(d:Dr)(B:Nat):Prop where
 tail:∀s∈d.segs,s.tail.length<=B
 recs:∀s∈d.segs,∀r∈s.recs,r.key.size<=B/\r.val.size<=B
 other:∀s∈d.others,s.name.size<=B/\s.bytes.length<=B
end
section
open Go.RowKit Go.Lib Pl
theorem a7D(seq:Nat)(k v:List UInt8)(d:Bool)(hk:k.length<=16)(hv:v.length<=64):(summed (body seq k v d)).length<=200:=by
 unfold summed body;simp[I4];omega
def c1Y(w:World)(e:Ending)(w':World):Prop:=
 ∃(x:Value)(n:Int)(l:List UInt8),e=.returned (.tuple #[x,.int .i64 n])/\Ext w w'/\OwnB w' w.heap.size x l/\l.length<=200
theorem a4d(w:World)(B:Nat):OwnB w B (.slice none 0 0) []:=⟨rfl,.inl ⟨rfl,rfl⟩⟩
theorem b4H(seq:Nat)(k v:ByteArray)(d:Bool)(sz:Int)(w:World):
 Calls Tryz.prog 49 #[a7E seq k v d sz] w (c1Y w):=by
 by_cases h1:k.size<1\/16<k.size
 ·refine(a9y seq k v d sz w h1).mono ?_;rintro e w' ⟨rfl,hE⟩;exact⟨_,_,[],rfl,hE,a4d _ _,by simp⟩
 by_cases h2:64<v.size\/(v.size<=64/\d=true/\0<v.size)
 ·refine(a9z seq k v d sz w (by omega) (by omega) h2).mono ?_;rintro e w' ⟨rfl,hE⟩;exact⟨_,_,[],rfl,hE,a4d _ _,by simp⟩
 ·refine(b1E seq k v d sz w (by omega) (by omega) (by omega) ?_).mono ?_
  ·cases d
   ·exact .inl rfl
   ·right;rcases Nat.eq_zero_or_pos v.size with h|h
    ·exact h
    ·exact absurd (.inr ⟨by omega,rfl,h⟩) h2
  ·rintro e w' ⟨x,rfl,hO,hE⟩;exact⟨_,_,_,rfl,hE,hO,a7D _ _ _ _ (by rw[J3];omega) (by rw[J3];omega)⟩
end
section
open Go.RowKit Go.Lib Pl
def c0e(gen:Nat)(l:List Int)(w:World)(e:Ending)(w':World):Prop:=
 ∃x,e=.returned (.tuple #[x,.int .i64 (if a0b l=true then 0 else 4)])/\Ext w w'/\
  ((a0b l=true/\OwnB w' w.heap.size x (summed (a1m gen l)))\/(a0b l=false/\x=.slice none 0 0))
theorem a7F(gen:Nat)(v:Value)(l:List Int)(w:World)(h:Ints w v l):
 Calls Tryz.prog 52 #[.int .u64 gen,v] w (c0e gen l w):=by
 obtain⟨a,cap,rfl,hc,hc',-⟩:=h.open;obtain⟨i0,hi,hz0,hz1,hz2⟩:=info_parts a4m;have HI:=Lib.hid h;clear h;go_enter Tryz.func52,Tryz.ntmps52
 go_wp2_with fail
 refine(a5K _ l w HI.out).mono ?_;rintro e w1 ⟨rfl,q,hq⟩;have hE1:Ext w w1:=by rw[hq];exact Ext.drewN w q
 clear hq
 cases hok:a0b l with
 | false=>
  go_wp2;go_ret2
  exact⟨_,by rw[hok];rfl,hE1,Or.inr ⟨hok,rfl⟩⟩
 | true=>
  have hl60:l.length<=60:=by
   have:=hok;unfold a0b at this;exact of_decide_eq_true (Bool.and_eq_true_iff.1 this).1
  have hO1:OwnB w1 w.heap.size (.slice none 0 0) []:=⟨rfl,Or.inl ⟨rfl,rfl⟩⟩;go_wp2_with fail
  refine(X5 _ w.heap.size [] gen 8 w1 hO1 (by omega) (by simp) hE1.size).mono ?_;rintro e w2 ⟨v2,rfl,hO2,hb2⟩;have hE2:=Below.trans hE1 hb2;clear hE1 hb2 hO1;have hwl:IntKind.u64.wrap (l.length:Int)=(l.length:Int):=by rw[IntKind.wrap_u64];omega
  go_wp2_with fail
  refine(X5 _ w.heap.size _ l.length 2 w2 hO2 (by omega) (by simp[I4]) hE2.size).mono ?_;rintro e w3 ⟨v3,rfl,hO3,hb3⟩;have hE3:=Below.trans hE2 hb3;clear hE2 hb3 hO2;have hin:∀n∈l,inRange n=true:=by
   have:=hok;unfold a0b at this;exact List.all_eq_true.1 (Bool.and_eq_true_iff.1 (Bool.and_eq_true_iff.1 this).2).1
  go_wp2;go_loopw [7,8] (fun u i wr=>∃k:Nat,k<=l.length/\i=.int .i64 k/\OwnB wr w.heap.size u ([]++be gen 8++be l.length 2++a0Z (l.take k))/\Ext w wr) (fun _ i _=>l.length - (intOf i).toNat)
  case atStart=>exact⟨0,Nat.zero_le _,rfl,by simpa [a0Z] using hO3,hE3⟩
  case round=>
   clear hO3 hE3;obtain⟨k,hk,rfl,hO,hE⟩:=hrel;have hlb:=a2a (l.take k);rw[List.length_take] at hlb;by_cases hlt:k<l.length
   ·obtain⟨b,rfl,hb⟩:∃b,a=some b/\wr.cell? (b.add k)=some (.int .i64 (l[k])):=by
     obtain⟨a',c',e,_,_,hf⟩:=(HI.out.ext hE).open;injection e with e1;subst e1;exact hf k hlt
    have hir:=hin _ (List.getElem_mem hlt);unfold inRange at hir;have hi1:=of_decide_eq_true (Bool.and_eq_true_iff.1 hir).1;have hi2:=of_decide_eq_true (Bool.and_eq_true_iff.1 hir).2;have hsn:a0Z (l.take (k+1))=a0Z (l.take k)++be (l[k]).toNat 4:=by rw[take_snoc l k hlt,b1h]
    have HS:=Lib.hid hsn;clear hsn hir;generalize l[k]=x at *;obtain⟨x,rfl⟩:=Int.eq_ofNat_of_zero_le (show 0<=x by omega);have hwx:IntKind.u64.wrap (x:Int)=(x:Int):=by rw[IntKind.wrap_u64];omega
    have hcall:=X5 _ w.heap.size _ x 4 _ hO (by omega) (by simp[I4];omega) hE.size;have HE:=Lib.hid hE;clear hE hO;go_wp2_with fail
    refine hcall.mono ?_;rintro e w5 ⟨v5,rfl,hO5,hb5⟩;have hE5:Ext w w5:=Below.trans HE.out hb5;clear hcall hb5 HE;go_wp2;go_roundw
    case rel=>exact⟨k+1,by omega,by go_num,by rw[HS.out];simpa using hO5,hE5⟩
    case measure=>simp[intOf];omega
   ·obtain rfl:k=l.length:=by omega
    rw[List.take_length] at hO;have hd:[]++be gen 8++be l.length 2++a0Z l=a1m gen l:=by unfold a1m;simp
    rw[hd] at hO;have hml:(a1m gen l).length<=300:=by unfold a1m;simp[I4,a2a];omega
    have hdecl:∃m,m=a1m gen l:=⟨_,rfl⟩;have HE:=Lib.hid hE;have HO:=Lib.hid hO;clear hE hO hd hdecl;go_wp2_with fail
    refine(a2h _ (a1m gen l) _ HO.out.bytes).mono ?_;rintro e w5 ⟨rfl,rfl⟩;have hown:OwnB wr w.heap.size u7 (a1m gen l):=HO.out;have hE:Ext w wr:=HE.out;clear HO HE;generalize hI:a1m gen l=I at *;have hwc:IntKind.u64.wrap ((crc I:Nat):Int)=((crc I:Nat):Int):=by rw[IntKind.wrap_u64];have:=a4a I;omega
    have HO:=Lib.hid hown;have HE:=Lib.hid hE;clear hown hE;go_wp2_with fail
    refine(X5 _ wr.heap.size [] (crc I) 4 _ (World.ownsRow_nil _ _ _ _) (by omega) (by simp) (Nat.le_refl _)).mono ?_;rintro e w9 ⟨v9,rfl,hown9,hb9⟩;rw[List.nil_append] at hown9;generalize hC:be (crc I) 4=C at *;have hCl:C.length=4:=by rw[<-hC,I4]
    have HC:=Lib.hid hC;clear hC;have HCl:=Lib.hid hCl;clear hCl;clear hwc;go_wp2_with (at_builtin;go_must (refine H5 rfl _ _ 25 rfl wr.heap.size 5 i0 (.int .u8 0) 1 1 Tryz.underlying25 hi hz0 hz1 hz2 rfl (by omega) v9 C.length _ rfl hown9 u7 I.length (I.map byteV) rfl (HO.out.bytes.ext hb9) (by simp) (a0O _) (by rw[HCl.out];unfold maxLen;omega) (by rw[HCl.out];omega) hb9.size ?_);intro b10 c10 w10 hown10 hgrow10 hat10;clear hat10)
    go_ret2
    refine⟨_,by rw[if_pos hok];rfl,?_,Or.inl ⟨hok,?_⟩⟩
    ·exact(Below.trans HE.out (hb9.mono HE.out.size)).grown hgrow10 (Nat.le_trans HE.out.size hb9.size) (fun r hr=>by have:=(hown9.lt r hr).1;have:=HE.out.size;omega)
    ·have e1:(summed I).map byteV=C.map byteV++I.map byteV:=by rw[<-List.map_append,summed,HC.out]
     have e2:(summed I).length=C.length+I.length:=by rw[summed,HC.out,List.length_append]
     unfold OwnB;rw[hI,e1,e2];exact O8 hown10 HE.out.size
end
end Go.Proofs.YtgpbhjjajpbeeaaGreatDoor
