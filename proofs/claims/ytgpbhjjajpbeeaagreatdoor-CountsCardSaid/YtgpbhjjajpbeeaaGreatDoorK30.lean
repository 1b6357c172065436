/- A part of what the last file proves. -/
import Derived.Test.YtgpbhjjajpbeeaaGreatDoorK28
import Derived.Test.YtgpbhjjajpbeeaaGreatDoorK29
import Derived.OwnWalk
set_option linter.all false
set_option maxRecDepth 100000
set_option maxHeartbeats 6400000
namespace Go.Proofs.YtgpbhjjajpbeeaaGreatDoor
section
open Go.RowKit Go.Lib Go.Maps Dk Pl
theorem c2D{γ:Type}(f:γ->List Value){N:Nat}(hf:∀x,(f x).length=N):∀(l:List γ)(i:Nat)(x:γ),l[i]?=some x->∀j,j<N->(l.flatMap f)[i*N+j]?=(f x)[j]?:=by
 intro l
 induction l with
 | nil=>intro i x h;simp at h
 | cons y l ih=>
  intro i x h j hj;rw[List.flatMap_cons]
  cases i with
  | zero=>
   simp at h;subst h
   rw[List.getElem?_append_left (by rw[hf];omega)];simp
  | succ i=>
   simp at h;have e:(i+1)*N+j - N=i*N+j:=by rw[Nat.succ_mul];omega
   rw[List.getElem?_append_right (by rw[hf,Nat.succ_mul];omega),hf,e];exact ih i x h j hj
theorem a4T{γ:Type}{f:γ->List Value}{N:Nat}(hf:∀x,(f x).length=N){w:World}{B:Nat}{e:TypeId}{v:Value}{l:List γ}(h:w.ownsRow B e N v l.length (l.flatMap f)){k:Nat}{t:γ}(hk:l[k]?=some t):
 ∃g cap,v=.slice (some ⟨g,0,none⟩) l.length cap/\l.length<=cap/\g<w.heap.size/\B<=g/\∀c x,(f t)[c]?=some x->w.cell? ⟨g,k*N+c,none⟩=some x:=by
 have hkl:k<l.length:=(List.getElem?_eq_some_iff.1 hk).1;rcases h.2 with⟨_,h0⟩|⟨g,cap,cur,rfl,hb,hg,h1,h2,h3,h4⟩
 ·omega
 ·refine⟨g,cap,rfl,h1,lt_of_block hg,hb,fun c x hx=>?_⟩;have hc:c<N:=by
   have:=(List.getElem?_eq_some_iff.1 hx).1;rw[hf] at this;exact this
  have e1:=c2D f hf l k t hk c hc;rw[hx] at e1;have hlt:k*N+c<l.length*N:=by
   have:(k+1)*N<=l.length*N:=Nat.mul_le_mul_right _ hkl;rw[Nat.succ_mul] at this;omega
  rw[<-h4,List.getElem?_take,if_pos hlt] at e1;simp only[World.cell?,hg];simpa using e1
theorem a0S(t:St):(statCells t).length=5:=rfl
def St.Fit(t:St):Prop:=t.recs<=1099511627776/\t.bytes<=1099511627776/\t.dead<=t.recs/\t.deadB<=t.bytes/\(0<t.recs->0<t.bytes)
theorem a8b{ids:List Int}{bss:List (List UInt8)}{k:Nat}(hl:∀i,(bss.getD i []).length<=1099511627776)(hk:k<bss.length):(statOf ids (y8 bss) k).Fit:=by
 unfold statOf;rw[U0 _ _ hk];obtain⟨⟨h1,h2,h3,h4,h5⟩,h6,h7⟩:=a4t (ids.getD k 0) (U7 (y8 bss) k) (a3L (bss.getD k [])) (A9 (bss.getD k [])).length (Nat.le_refl _);have h8:=Y9 (A9 (bss.getD k [])) (A9 (bss.getD k [])).length;have h9:=a1N (bss.getD k []);have h10:=hl k;exact⟨by omega,by omega,h3,h4,h5⟩
theorem b5k(te tb:Nat):((100*(te:Int)).tdiv (tb:Int))=((te*100/tb:Nat):Int):=by
 have:=Int.ofNat_tdiv (100*te) tb;rw[Nat.mul_comm te 100];simpa using this.symm
theorem b84(te tb:Nat):(((te:Int)*100).tdiv (tb:Int))=((te*100/tb:Nat):Int):=by
 rw[Int.mul_comm];exact b5k te tb
theorem b6v(sb r Cb n n':Nat)(c0 c1 c2 c5:Value)(ids:List Int)(bss:List (List UInt8))(percent count:Int)(w:World)(hb:j6 w sb 138 #[c0,c1,c2,.slice (some ⟨Cb,0,none⟩) n n',.map (some r),c5])
 (hn:n=bss.length/\n<=n'/\n<=1000000)(hS:a0J w Cb n ids bss)(hM:Y6 w r (a0h bss n))(hl:∀i,(bss.getD i []).length<=1099511627776):
 Calls Tryz.prog 25 #[l7 sb,.int .i64 percent,.int .i64 count] w fun e w'=>∃u,e=.returned u/\OwnI w' w.heap.size u (X3 percent count (U4 ids (y8 bss) n))/\Ext w w':=by
 obtain⟨i0,hi,hz0,hz1,hz2⟩:=info_parts a3q;have hst:=a8a sb r Cb n n' c0 c1 c2 c5 ids bss w hb hn hS hM hl;have hfit:∀k,k<n->(statOf ids (y8 bss) k).Fit:=fun k hk=>a8b hl (by omega);have hlen:=a2h ids (y8 bss) n;have hat:∀k,k<n->(U4 ids (y8 bss) n)[k]?=some (statOf ids (y8 bss) k):=fun k hk=>by
  unfold U4;rw[List.getElem?_map,List.getElem?_range hk];rfl
 have hn2:=hn.2.2;obtain⟨SL,hSL⟩:∃SL,U4 ids (y8 bss) n=SL:=⟨_,rfl⟩;rw[hSL] at hst hlen hat⊢;have HST:=Lib.hid hst;have HFIT:=Lib.hid hfit;have HAT:=Lib.hid hat;have HLEN:=Lib.hid hlen;clear hb hS hM hl hst hfit hat hlen hSL hn;unfold l7 at *;go_enter Tryz.func25,Tryz.ntmps25
 go_wp2_with fail
 refine HST.out.mono ?_;rintro e w1 ⟨u,rfl,hrow,hE1⟩;obtain⟨ua,uc,rfl⟩:=ownsRow_form hrow;have hsz1:=hE1.size;have HROW:=Lib.hid hrow;have HE1:=Lib.hid hE1;clear hrow hE1 HST;go_wp2_with fail
 go_loopw [7,13] (fun o i wr=>∃k:Nat,i=.int .i64 k/\k<=n/\OwnI wr w1.heap.size o (X3 percent count (SL.take k))/\Ext w1 wr) (fun _ i _=>n - (intOf i).toNat)
 case atStart=>exact⟨0,rfl,by omega,⟨rfl,Or.inl ⟨rfl,rfl⟩⟩,Ext.refl w1⟩
 case round=>
  obtain⟨k,rfl,hk,hown,hE⟩:=hrel;have hvl:(X3 percent count (SL.take k)).length<=k:=by
   unfold X3;rw[List.length_map];exact Nat.le_trans (List.length_filter_le _ _) (by rw[List.length_take];omega)
  by_cases hlt:k<n
  ·have ht:=HAT.out k hlt;obtain⟨f1,f2,f3,f4,f5⟩:=HFIT.out k hlt;have hrow:=HROW.out;rw[<-HLEN.out] at hrow;obtain⟨g,cap,hu,hcap,hgl,-,hcells⟩:=a4T a0S hrow ht;have hvs:=a7Q percent count SL k _ ht;obtain⟨T,hT⟩:∃T,statOf ids (y8 bss) k=T:=⟨_,rfl⟩;rw[hT] at f1 f2 f3 f4 f5 hcells hvs ht;obtain⟨ti,tr,tb,td,te⟩:=T;dsimp only at f1 f2 f3 f4 f5 hvs;injection hu with h1 h2 h3;subst h1;subst h3;have x0:=hE.cell (hcells 0 _ rfl);have x1:=hE.cell (hcells 1 _ rfl);have x2:=hE.cell (hcells 2 _ rfl);have x3:=hE.cell (hcells 3 _ rfl);have x4:=hE.cell (hcells 4 _ rfl);rw[Nat.add_zero] at x0;have hc2:n<=uc:=by rw[HLEN.out] at hcap;exact hcap
   have hki:(k:Int)<(n:Int):=by omega
   have hbx:j6 (wr.alloc (.cells #[.int .i64 ti,.int .i64 tr,.int .i64 tb,.int .i64 td,.int .i64 te] 67)) wr.heap.size 67 #[.int .i64 ti,.int .i64 tr,.int .i64 tb,.int .i64 td,.int .i64 te]:=j6.new _ _ rfl;have y0:=(hbx.cell 0).trans (show _=some (Value.int .i64 ti) from rfl);have y1:=(hbx.cell 1).trans (show _=some (Value.int .i64 tr) from rfl);have y2:=(hbx.cell 2).trans (show _=some (Value.int .i64 tb) from rfl);have y3:=(hbx.cell 3).trans (show _=some (Value.int .i64 td) from rfl);have y4:=(hbx.cell 4).trans (show _=some (Value.int .i64 te) from rfl);have hq:=b5k te tb;obtain⟨Q,hQ⟩:∃Q,te*100/tb=Q:=⟨_,rfl⟩;have hQb:Q<=109951162777600:=by rw[<-hQ];exact Nat.le_trans (Nat.div_le_self _ _) (by omega)
   have hvb:b3x percent count ⟨ti,tr,tb,td,te⟩=(decide (tr≠0)&&(decide (percent<=(Q:Int))||decide (count<=(td:Int)))):=by unfold b3x;dsimp only;rw[hQ]
   rw[hQ] at hq;have HO:=Lib.hid hown;have HE:=Lib.hid hE;have HVS:=Lib.hid hvs;have HVB:=Lib.hid hvb;clear hown hE hvs hvb hcells hrow ht hT hbx hQ HROW h2 hcap;dsimp only at x0 x1 x2 x3 x4;obtain⟨oa,oc,rfl⟩:=ownsRow_form HO.out;have hwr:w1.heap.size<=wr.heap.size:=HE.out.size;have ho1:OwnI (wr.alloc (.cells #[.int .i64 ti,.int .i64 tr,.int .i64 tb,.int .i64 td,.int .i64 te] 67)) w1.heap.size (.slice oa (X3 percent count (SL.take k)).length oc) (X3 percent count (SL.take k)):=World.ownsRow.alloc HO.out _;have HO1:=Lib.hid ho1;have hnw:((wr.alloc (.cells #[.int .i64 ti,.int .i64 tr,.int .i64 tb,.int .i64 td,.int .i64 te] 67)).alloc (.cells #[.int .i64 ti] 3)).heap[wr.heap.size+1]?=some (.cells #[.int .i64 ti] 3):=by
    have e:(wr.alloc (.cells #[.int .i64 ti,.int .i64 tr,.int .i64 tb,.int .i64 td,.int .i64 te] 67)).heap.size=wr.heap.size+1:=by simp
    rw[<-e];exact heap_alloc_new _ _
   clear ho1;by_cases r0:tr=0
   ·have r0i:¬(0:Int)<(tr:Int):=by omega
    go_wp2;go_roundw
    case rel=>
     refine⟨k+1,by go_num,by omega,?_,HE.out.new _⟩;rw[HVS.out,if_neg (by rw[HVB.out];simp[*]),List.append_nil]
     first
      | exact HO1.out
      | (have h:=HO1.out;rw[show(tr:Int)=0 by omega] at h;exact h)
    case measure=>simp[intOf];omega
   ·have r0i:(0:Int)<(tr:Int):=by omega
    have htb:¬(tb:Int)=0:=by have:=f5 (by omega);omega
    by_cases r1:percent<=(Q:Int)
    ·go_wp2_with (at_builtin;go_must (refine p8 rfl _ _ 69 rfl w1.heap.size 3 i0 (.int .i64 0) 1 8 Tryz.underlying69 hi hz0 hz1 hz2 rfl (by omega) (.slice oa (X3 percent count (SL.take k)).length oc) (X3 percent count (SL.take k)).length _ rfl (World.ownsRow.alloc HO1.out (.cells #[.int .i64 ti] 3)) (.slice (some ⟨wr.heap.size+1,0,none⟩) 1 1) 1 [.int .i64 ti] rfl ⟨_,_,rfl,by omega,⟨by omega,fun h=>by cases h⟩,fun _=>⟨_,rfl,World.news_of_block (cs:=#[.int .i64 ti]) (t:=3) (fr:=(0,0)) hnw⟩⟩ rfl (by simp[Value.oneCell']) (by unfold maxLen;omega) (by omega) (by simp;omega) ?_);intro b6 c6 w6 hown6 hgrow6 hat6;have HO6:=Lib.hid hown6;have HG6:=Lib.hid hgrow6;clear hown6 hgrow6 hat6)
     go_roundw
     case rel=>
      refine⟨k+1,by go_num,by omega,?_,?_⟩
      ·have:=HO6.out;rw[HVS.out,if_pos (by rw[HVB.out];simp[*])];unfold OwnI;rw[List.length_append,List.map_append];simpa using this
      ·exact Below.grown ((HE.out.new (.cells #[.int .i64 ti,.int .i64 tr,.int .i64 tb,.int .i64 td,.int .i64 te] 67)).new (.cells #[.int .i64 ti] 3)) HG6.out (by simp;omega) (fun j hj=>(World.ownsRow.lt HO.out j hj).1)
     case measure=>simp[intOf];omega
    ·by_cases r2:count<=(td:Int)
     ·go_wp2_with (at_builtin;go_must (refine p8 rfl _ _ 69 rfl w1.heap.size 3 i0 (.int .i64 0) 1 8 Tryz.underlying69 hi hz0 hz1 hz2 rfl (by omega) (.slice oa (X3 percent count (SL.take k)).length oc) (X3 percent count (SL.take k)).length _ rfl (World.ownsRow.alloc HO1.out (.cells #[.int .i64 ti] 3)) (.slice (some ⟨wr.heap.size+1,0,none⟩) 1 1) 1 [.int .i64 ti] rfl ⟨_,_,rfl,by omega,⟨by omega,fun h=>by cases h⟩,fun _=>⟨_,rfl,World.news_of_block (cs:=#[.int .i64 ti]) (t:=3) (fr:=(0,0)) hnw⟩⟩ rfl (by simp[Value.oneCell']) (by unfold maxLen;omega) (by omega) (by simp;omega) ?_);intro b6 c6 w6 hown6 hgrow6 hat6;have HO6:=Lib.hid hown6;have HG6:=Lib.hid hgrow6;clear hown6 hgrow6 hat6)
      go_roundw
      case rel=>
       refine⟨k+1,by go_num,by omega,?_,?_⟩
       ·have:=HO6.out;rw[HVS.out,if_pos (by rw[HVB.out];simp[*])];unfold OwnI;rw[List.length_append,List.map_append];simpa using this
       ·exact Below.grown ((HE.out.new (.cells #[.int .i64 ti,.int .i64 tr,.int .i64 tb,.int .i64 td,.int .i64 te] 67)).new (.cells #[.int .i64 ti] 3)) HG6.out (by simp;omega) (fun j hj=>(World.ownsRow.lt HO.out j hj).1)
      case measure=>simp[intOf];omega
     ·go_wp2;go_roundw
      case rel=>
       refine⟨k+1,by go_num,by omega,?_,HE.out.new _⟩;rw[HVS.out,if_neg (by rw[HVB.out];simp[*]),List.append_nil]
       first
        | exact HO1.out
        | (have h:=HO1.out;rw[show(tr:Int)=0 by omega] at h;exact h)
      case measure=>simp[intOf];omega
  ·obtain rfl:k=n:=by omega
   have htk:SL.take k=SL:=List.take_of_length_le (by rw[HLEN.out];exact Nat.le_refl _);rw[htk] at hown;have HF:=Lib.hid hown;have HE:=Lib.hid (HE1.out.trans hE);clear hown hE;go_wp2;go_ret;exact⟨_,rfl,I6 HF.out hsz1,HE.out⟩
end
section
open Go.RowKit Go.Lib Go.Maps Dk Pl
def a5o(p:Int×Value×Nat):List Value:=[.int .i64 p.1,p.2.1,.int .i64 p.2.2]
def b1q(W:World)(g i:Nat)(ids:List Int)(bss:List (List UInt8)):Prop:=
 W.cell? ⟨g,i*3,none⟩=some (.int .i64 (ids.getD i 0))/\W.cell? ⟨g,i*3+2,none⟩=some (.int .i64 ((bss.getD i []).length:Nat))/\
  ∃u,W.cell? ⟨g,i*3+1,none⟩=some u/\a1L W 116 5 u (A9 (bss.getD i [])).length ((A9 (bss.getD i [])).flatMap a2L)
def a0C(W:World)(rb gen:Nat)(ids:List Int)(bss:List (List UInt8)):Prop:=
 ∃(a:Option Addr)(cap:Nat),j6 W rb 50 #[.int .u64 gen,.slice a ids.length cap]/\ids.length<=cap/\cap<=9223372036854775807/\bss.length=ids.length/\∀i,i<ids.length->∃g,a=some ⟨g,0,none⟩/\b1q W g i ids bss
theorem b1q.ext{w w':World}{g i:Nat}{ids:List Int}{bss:List (List UInt8)}(h:b1q w g i ids bss)(hE:Ext w w'):b1q w' g i ids bss:=by
 obtain⟨h1,h2,u,h3,h4⟩:=h;exact⟨hE.cell h1,hE.cell h2,u,hE.cell h3,h4.keep fun b hb=>hE.block b (h4.lt hb)⟩
theorem a0C.ext{w w':World}{rb gen:Nat}{ids:List Int}{bss:List (List UInt8)}(h:a0C w rb gen ids bss)(hE:Ext w w'):a0C w' rb gen ids bss:=by
 obtain⟨a,cap,h1,h2,h3,h4,h5⟩:=h;exact⟨a,cap,(hE.block rb h1.lt).trans h1,h2,h3,h4,fun i hi=>let ⟨g,e,h⟩:=h5 i hi;⟨g,e,h.ext hE⟩⟩
structure RSt(W:World)(B rb gen:Nat)(ids:List Int)(bss:List (List UInt8))(rows:List (Int×Value×Nat))(v:Value):Prop where
 box:j6 W rb 50 #[.int .u64 gen,v]
 row:W.ownsRow B 54 3 v rows.length (rows.flatMap a5o)
 len:rows.length=bss.length
 seg:∀(i:Nat)p,rows[i]?=some p->p.1=ids.getD i 0/\p.2.2=(bss.getD i []).length/\W.ownsRow B 116 5 p.2.1 (A9 (bss.getD i [])).length ((A9 (bss.getD i [])).flatMap a2L)
theorem c1R{w:World}{B:Nat}{e:TypeId}{size:Nat}{v:Value}{n:Nat}{xs:List Value}(h:w.ownsRow B e size v n xs):a1L w e size v n xs:=by
 refine⟨h.1,?_⟩;rcases h.2 with h|⟨g,cap,cur,rfl,_,h2,h3,h4,h5,h6⟩
 ·exact .inl h
 ·exact .inr ⟨g,cap,cur,_,rfl,h2,h3,h4,h5,h6⟩
theorem RSt.store{W:World}{B rb gen:Nat}{ids:List Int}{bss:List (List UInt8)}{rows:List (Int×Value×Nat)}{v:Value}(h:RSt W B rb gen ids bss rows v)(hl:bss.length=ids.length):a0C W rb gen ids bss:=by
 have hrl:rows.length=ids.length:=h.len.trans hl;have hrow:=h.row;have hm:maxLen<=9223372036854775807:=by unfold maxLen;omega
 have hform:∃(a:Option Addr)(cap:Nat),v=.slice a ids.length cap/\ids.length<=cap/\cap<=9223372036854775807:=by
  rcases hrow.2 with⟨rfl,h0⟩|⟨g,cap,cur,rfl,_,_,h3,h4,_⟩
  ·exact⟨none,0,by rw[<-hrl,h0],by omega,by omega⟩
  ·exact⟨_,cap,by rw[hrl],by omega,by omega⟩
 obtain⟨a,cap,rfl,h1,h2⟩:=hform;refine⟨a,cap,h.box,h1,h2,hl,fun i hi=>?_⟩;have hp:rows[i]?=some rows[i]:=List.getElem?_eq_getElem (by omega);obtain⟨g,cap',e,-,-,-,hc⟩:=a4T (f:=a5o) (fun _=>rfl) hrow hp;injection e with e1 e2 e3;obtain⟨s1,s2,s3⟩:=h.seg i _ hp;have c0:=hc 0 _ rfl;have c1:=hc 1 _ rfl;have c2:=hc 2 _ rfl;rw[Nat.add_zero,s1] at c0;rw[s2] at c2;exact⟨g,e1,c0,c2,_,c1,c1R s3⟩
theorem RSt.keep{W W':World}{B rb gen:Nat}{ids:List Int}{bss:List (List UInt8)}{rows:List (Int×Value×Nat)}{v:Value}(h:RSt W B rb gen ids bss rows v)(hk:∀b,b<W.heap.size->W'.heap[b]?=W.heap[b]?):RSt W' B rb gen ids bss rows v where
 box:=(hk rb h.box.lt).trans h.box
 row:=Dep.row h.row W' fun b hb=>hk b (World.ownsRow.lt h.row b hb).2
 len:=h.len
 seg:=fun i p hp=>⟨(h.seg i p hp).1,(h.seg i p hp).2.1,Dep.row (h.seg i p hp).2.2 W' fun b hb=>hk b (World.ownsRow.lt (h.seg i p hp).2.2 b hb).2⟩
def a3R(l:Fl)(w:World)(e:Ending)(w':World):Prop:=
 ∃v,e=.returned (.tuple #[v,.int .i64 (J6 l).2.1,strV (J6 l).2.2])/\Ext w w'/\(((J6 l).1=none/\v=.pointer none)\/∃g ids bss rb,(J6 l).1=some (g,ids,bss)/\a6O ids/\(∀i,(bss.getD i []).length<=1099511627776)/\v=l7 rb/\w.heap.size<=rb/\a0C w' rb g ids bss)
theorem b2O(v:Value)(l:Fl)(w:World)(h:a2E w v l)(hl:∀p∈l,p.2.length<=1099511627776):
 Calls Tryz.prog 17 #[v] w (a3R l w):=by
 obtain⟨i0,hi0,hz0,hz1,hz2⟩:=info_parts b8E;have hfd:=a9V v l F5 w h;have HFD:=Lib.hid hfd;have HF:=Lib.hid h;have HL:=Lib.hid hl;clear hfd h hl;unfold strV at HFD;unfold F5 at HFD;go_enter Tryz.func17,Tryz.ntmps17
 go_wp2_with fail
 refine HFD.out.mono ?_;rintro e w1 ⟨rfl,bv,rfl,hbv⟩
 cases hm:q9 l [109,97,110,105,102,101,115,116] with
 | none=>
  have hfin:a3R l w1 (.returned (.tuple #[.pointer none,.int .i64 5,.string ⟨#[]⟩])) w1:=by
   have e:=a2M hm;exact⟨.pointer none,by rw[e];rfl,Ext.refl w1,.inl ⟨by rw[e],rfl⟩⟩
  have HFIN:=Lib.hid hfin;clear hfin hbv HFD;go_wp2;go_ret3
  exact HFIN.out
 | some m=>
  rw[hm] at hbv;have hrm:=a8F bv m w1 hbv;have HRM:=Lib.hid hrm;clear hrm hbv HFD;go_wp2_with fail
  refine HRM.out.mono ?_;rintro e w5 ⟨gv,iv,ok,rfl,hE5,hcase⟩;clear HRM;rcases hcase with⟨hrd,rfl,rfl,rfl⟩|⟨gen,ids,hrd,rfl,rfl,hown⟩
  ·have hfin:a3R l w1 (.returned (.tuple #[.pointer none,.int .i64 6,.string ⟨#[]⟩])) w5:=by
    have e:=a3F hm hrd;exact⟨.pointer none,by rw[e];rfl,hE5,.inl ⟨by rw[e],rfl⟩⟩
   have HFIN:=Lib.hid hfin;clear hfin hrd hm hE5;go_wp2;go_ret3
   exact HFIN.out
  ·have hin:=b2l hrd;have hints:=OwnI.ints hown;obtain⟨xa,xc,rfl⟩:=ownsRow_form hown;have hf5:=HF.out.ext hE5;have hbox0:j6 (w5.alloc (.cells #[.int .u64 gen,.slice none 0 0] 50)) w5.heap.size 50 #[.int .u64 gen,.slice none 0 0]:=j6.new _ _ rfl;have hil:=hin.1;have HX:=Lib.hid hints;have HIN:=Lib.hid hin;have HE5:=Lib.hid hE5;have HF5:=Lib.hid hf5;have HM:=Lib.hid hm;have HRD:=Lib.hid hrd;clear hints hin hE5 hf5 hm hrd hown HF;go_wp2_with fail
   go_loopw [11] (fun i wr=>∃(k:Nat)(acc:List (List UInt8))(rows:List (Int×Value×Nat))(sv:Value),i=.int .i64 k/\k<=ids.length/\acc.length=k/\(∀b∈acc,b.length<=1099511627776)/\K8 l ids []=K8 l (ids.drop k) acc/\RSt wr w5.heap.size w5.heap.size gen ids acc rows sv/\Ext w5 wr) (fun i _=>ids.length - (intOf i).toNat)
   case atStart=>exact⟨0,[],[],.slice none 0 0,rfl,by omega,rfl,by simp,rfl,⟨hbox0,⟨rfl,Or.inl ⟨rfl,rfl⟩⟩,rfl,by simp⟩,(Ext.refl w5).new _⟩
   case round=>
    obtain⟨k,acc,rows,sv,rfl,hk,hal,hab,hsg,hS,hE⟩:=hrel;by_cases hlt:k<ids.length
    ·obtain⟨xb,rfl,xcell⟩:=HX.out.at hE hlt;have hr:=HIN.out.2 ids[k] (List.getElem_mem hlt);obtain⟨y,hy⟩:∃y:Nat,ids[k]=(y:Int):=⟨ids[k].toNat,by omega⟩;rw[hy] at xcell hr;have hnm:=a3t H5 y wr (by simp[H5]) (by omega);obtain⟨name,hname⟩:∃name,C8 H5 y=name:=⟨_,rfl⟩;have hdrop:ids.drop k=(y:Int)::ids.drop (k+1):=by rw[List.drop_eq_getElem_cons hlt,hy]
     rw[hdrop] at hsg;rw[hname] at hnm;have hf1:=HF5.out.ext hE;have HNA:=Lib.hid hnm;have HSG:=Lib.hid hsg;have HS:=Lib.hid hS;have HE:=Lib.hid hE;have HAB:=Lib.hid hab;have HY:=Lib.hid hy;have HNM:=Lib.hid hname;have HAL:=Lib.hid hal;have HF1:=Lib.hid hf1;clear hnm hsg hS hE hab hy hname hdrop hf1;unfold strV H5 at HNA;go_wp2_with fail
     refine HNA.out.mono ?_;rintro e w7 ⟨rfl,hE7⟩;have hfd:=a9V v l name w7 (HF1.out.ext hE7);have HFD:=Lib.hid hfd;have HE7:=Lib.hid hE7;clear hfd hE7 HNA;unfold strV at HFD;go_wp2_with fail
     refine HFD.out.mono ?_;rintro e w8 ⟨rfl,bv,rfl,hbv⟩;clear HFD;have hseg:C8 H5 ((y:Int)).toNat=name:=by rw[Int.toNat_natCast];exact HNM.out
     cases hlk:q9 l name with
     | none=>
      have hs0:K8 l ids []=(none,name):=by
       rw[HSG.out,a5r (by rw[hseg];exact hlk),hseg]
      have hro:=a2N HM.out HRD.out hs0;have hfin:a3R l w1 (.returned (.tuple #[.pointer none,.int .i64 7,.string ⟨name.toArray⟩])) w8:=
       ⟨.pointer none,by rw[hro];rfl,HE5.out.trans (HE.out.trans HE7.out),.inl ⟨by rw[hro],rfl⟩⟩
      have HFIN:=Lib.hid hfin;clear hfin hro hs0 hbv hlk hseg HSG HS;go_wp2;go_ret3
      exact HFIN.out
     | some b=>
      rw[hlk] at hbv;have hbl:=HL.out _ (a0i hlk);have hs1:K8 l ids []=K8 l (ids.drop (k+1)) (acc++[b]):=by
       rw[HSG.out,a5q (by rw[hseg];exact hlk)]
      have hrr:=b2P bv b w8 hbv hbl;have HRR:=Lib.hid hrr;have HS1:=Lib.hid hs1;have HBV:=Lib.hid hbv;have HBL:=Lib.hid hbl;obtain⟨ba,bc,rfl,hbc⟩:∃ba bc,bv=.slice ba b.length bc/\b.length<=bc:=by obtain⟨ba,bc,e,h1,_⟩:=hbv;exact⟨ba,bc,e,h1⟩
      clear hrr hs1 hbv hbl hlk hseg HSG;go_wp2_with fail
      refine HRR.out.mono ?_;rintro e w9 ⟨u,rfl,hrow,hE9⟩;obtain⟨ua,uc,rfl⟩:=ownsRow_form hrow;have hS9:=HS.out.keep (W':=w9) fun q hq=>((HE7.out.trans hE9).block q hq);have hE59:Ext w5 w9:=HE.out.trans (HE7.out.trans hE9);have hz59:=hE59.size;have hz89:w5.heap.size<=w8.heap.size:=(HE.out.trans HE7.out).size;have hrow9:=I6 hrow hz89;have xc9:=(HE7.out.trans hE9).cell xcell;obtain⟨sa,sc,hsv⟩:=ownsRow_form hS9.row;have hrl:rows.length=k:=by rw[hS9.len];exact HAL.out
      rw[hrl] at hsv;subst hsv;have hb1:=hS9.box;have hown:w9.ownsRow w5.heap.size 54 3 (.slice sa k sc) k (rows.flatMap a5o):=by have:=hS9.row;rw[hrl] at this;exact this
      have hod:(w9.drew.alloc (.cells #[.int .i64 y,.slice ua (A9 b).length uc,.int .i64 b.length] 54)).ownsRow w5.heap.size 54 3 (.slice sa k sc) k (rows.flatMap a5o):=World.ownsRow.alloc (w:=w9) hown (.cells #[.int .i64 y,.slice ua (A9 b).length uc,.int .i64 b.length] 54);have m0:=(hb1.cell 1).trans (show _=some (Value.slice sa k sc) from rfl);have mf0:=hb1.free 1;have hbF:j6 (w9.drew.alloc (.cells #[.int .i64 y,.slice ua (A9 b).length uc,.int .i64 b.length] 54)) w5.heap.size 50 #[.int .u64 gen,.slice sa k sc]:=j6.alloc (w:=w9.drew) hb1 _;have hne:(Value.slice sa k sc).ownBlock≠some w5.heap.size:=A8 hown hb1 (by decide);have hlt0:w5.heap.size<w9.heap.size:=hb1.lt;have HS9:=Lib.hid hS9;have HE59:=Lib.hid hE59;have HR9:=Lib.hid hrow9;have HBF:=Lib.hid hbF;have HNE:=Lib.hid hne;have HOW:=Lib.hid hown;have HRL:=Lib.hid hrl;clear hS9 hE59 hrow9 hrow hb1 hbF hne hown hrl xcell hE9 HRR HE7 HE HS HF1;go_wp2_with fail
      go_region_law (refine step_append_lies _ (by rfl) _ _ _ (by rfl) w5.heap.size 54 i0 (.agg #[.int .i64 0,.slice none 0 0,.int .i64 0]) 3 40 Tryz.underlying48 hi0 hz0 hz1 hz2 rfl (by omega) (.slice sa k sc) k _ (by rfl) hod ⟨w9.heap.size,0,none⟩ 1 1 [.int .i64 y,.slice ua (A9 b).length uc,.int .i64 b.length] (by rfl) (by rfl) (World.news_of_block (cs:=#[.int .i64 y,.slice ua (A9 b).length uc,.int .i64 b.length]) (t:=54) (fr:=(0,0)) (heap_alloc_new w9.drew _)) (by simp[Value.oneCell']) (by omega) (by unfold maxLen;omega) (by omega) (by simp;omega) (w9.heap.size+1) (by simp) ?_;intro gg cap6 w6 hown6 hgrow6 hat6 hlt6;have hb6:=HBF.out.grown' hgrow6 HNE.out;have m6:=(hb6.cell 1).trans (show _=some (Value.slice sa k sc) from rfl);have mf6:=hb6.free 1;have HB6:=Lib.hid hb6;have HO6:=Lib.hid hown6;have HG6:=Lib.hid hgrow6;clear hb6 hown6 hgrow6)
      all_goals
       go_wp2;go_roundw
       case rel=>
        have hne6:(Value.slice (some ⟨gg,0,none⟩) (k+1) cap6).ownBlock≠some w5.heap.size:=A8 HO6.out HB6.out (by decide);have hfin:∀q,q<w9.heap.size->(Value.slice sa k sc).ownBlock≠some q->q≠w5.heap.size->(w6.setCell ⟨w5.heap.size,1,none⟩ (.slice (some ⟨gg,0,none⟩) (k+1) cap6)).heap[q]?=w9.heap[q]?:=fun q h1 h2 h3=>
         (Below.heap_setCell _ _ _ _ h3).trans ((HG6.out.block q (by simp;omega) (fun e=>h2 e.symm)).trans (heap_alloc_old w9.drew _ h1))
        have hrk:∀(n:Nat)(vv:Value)(xs:List Value),w9.ownsRow w5.heap.size 116 5 vv n xs->(w6.setCell ⟨w5.heap.size,1,none⟩ (.slice (some ⟨gg,0,none⟩) (k+1) cap6)).ownsRow w5.heap.size 116 5 vv n xs:=fun n vv xs h=>
         Dep.row h _ fun q hq=>hfin q (World.ownsRow.lt h q hq).2 (a1O h HOW.out (by decide) hq) (fun e=>A8 h HS9.out.box (by decide) (e▸hq))
        refine⟨k+1,acc++[b],rows++[((y:Int),.slice ua (A9 b).length uc,b.length)],_,by go_num,by omega,by rw[List.length_append,HAL.out];rfl,fun b' hb'=>?_,HS1.out,⟨by simpa using HB6.out.set 1 _,?_,?_,fun i p hp=>?_⟩,?_⟩
        ·rcases List.mem_append.1 hb' with h|h
         ·exact HAB.out b' h
         ·obtain rfl:b'=b:=by simpa using h
          exact HBL.out
        ·have:=ownsRow_setCell_other (a:=⟨w5.heap.size,1,none⟩) HO6.out hne6 (.slice (some ⟨gg,0,none⟩) (k+1) cap6);rw[List.length_append,HRL.out,List.flatMap_append];simpa [a5o] using this
        ·rw[List.length_append,List.length_append,HRL.out,HAL.out];rfl
        ·by_cases hi:i<k
         ·rw[List.getElem?_append_left (by rw[HRL.out];exact hi)] at hp;obtain⟨s1,s2,s3⟩:=HS9.out.seg i p hp;have e:(acc++[b]).getD i []=acc.getD i []:=by
           rw[List.getD_eq_getElem?_getD,List.getD_eq_getElem?_getD,List.getElem?_append_left (by rw[HAL.out];exact hi)]
          rw[e];exact⟨s1,s2,hrk _ _ _ s3⟩
         ·rw[List.getElem?_append_right (by rw[HRL.out];omega)] at hp;have e0:i - rows.length=0:=by
           rcases Nat.eq_zero_or_pos (i - rows.length) with e|e
           ·exact e
           ·rw[List.getElem?_eq_none (by simp;omega)] at hp;cases hp
          rw[e0] at hp;simp at hp;subst hp;have hik:i=k:=by have:=HRL.out;omega
          subst hik;have e:(acc++[b]).getD i []=b:=by
           rw[List.getD_eq_getElem?_getD,List.getElem?_append_right (by rw[HAL.out];exact Nat.le_refl _),HAL.out];simp
          rw[e];refine⟨?_,rfl,hrk _ _ _ HR9.out⟩;rw[List.getD_eq_getElem?_getD,List.getElem?_eq_getElem hlt,HY.out];rfl
        ·refine Ext.setN ?_ (by simp);exact Below.grown ((Ext.trans HE59.out (Below.drew (Ext.refl w9))).new (.cells #[.int .i64 y,.slice ua (A9 b).length uc,.int .i64 b.length] 54)) HG6.out (by simp;omega) (fun j hj=>(HOW.out.lt j hj).1)
       case measure=>simp[intOf];omega
    ·obtain rfl:k=ids.length:=by omega
     have hst:=hS.store hal;have hsg2:K8 l ids []=(some acc,[]):=by rw[hsg,List.drop_length];rfl
     have hro:=a4G HM.out HRD.out hsg2;have hfin:a3R l w1 (.returned (.tuple #[.pointer (some ⟨w5.heap.size,0,none⟩),.int .i64 0,.string ⟨#[]⟩])) wr:=by
      refine⟨l7 w5.heap.size,by rw[hro];rfl,HE5.out.trans hE,.inr ⟨gen,ids,acc,w5.heap.size,by rw[hro],HIN.out,fun i=>?_,rfl,HE5.out.size,hst⟩⟩;rw[List.getD_eq_getElem?_getD]
      cases e:acc[i]? with
      | none=>simp
      | some b=>exact hab b (List.mem_of_getElem? e)
     have HFIN:=Lib.hid hfin;clear hfin hst hsg hsg2 hro hS hE hab;go_wp2;go_ret3
     exact HFIN.out
end
section
open Go.RowKit Go.Lib Go.Maps Dk Pl
theorem a3C(p:Nat×Rec):(a2L p).length=5:=rfl
theorem b1n{γ:Type}{f:γ->List Value}{N:Nat}(hf:∀x,(f x).length=N){w:World}{e:TypeId}{v:Value}{l:List γ}(h:a1L w e N v l.length (l.flatMap f)){k:Nat}{t:γ}(hk:l[k]?=some t):
 ∃g cap,v=.slice (some ⟨g,0,none⟩) l.length cap/\l.length<=cap/\cap<=maxLen/\g<w.heap.size/\∀c x,(f t)[c]?=some x->w.cell? ⟨g,k*N+c,none⟩=some x:=by
 have hkl:k<l.length:=(List.getElem?_eq_some_iff.1 hk).1;rcases h.2 with⟨_,h0⟩|⟨g,cap,cur,fr,rfl,hg,h1,h2,h3,h4⟩
 ·omega
 ·refine⟨g,cap,rfl,h1,h2,lt_of_block hg,fun c x hx=>?_⟩;have hc:c<N:=by
   have:=(List.getElem?_eq_some_iff.1 hx).1;rw[hf] at this;exact this
  have e1:=c2D f hf l k t hk c hc;rw[hx] at e1;have hlt:k*N+c<l.length*N:=by
   have:(k+1)*N<=l.length*N:=Nat.mul_le_mul_right _ hkl;rw[Nat.succ_mul] at this;omega
  rw[<-h4,List.getElem?_take,if_pos hlt] at e1;simp only[World.cell?,hg];simpa using e1
theorem a1L.cap{w:World}{e:TypeId}{size:Nat}{v:Value}{n:Nat}{xs:List Value}(h:a1L w e size v n xs):n<=maxLen:=by
 rcases h.2 with⟨_,h0⟩|⟨g,cap,cur,fr,_,_,h1,h2,_⟩
 ·omega
 ·omega
def Q7(segs:List (List (Nat×Rec)))(i k:Nat)(key:Nm)(j m:Nat):Prop:=∀(j' m':Nat)(q:Nat×Rec),(segs.getD j' [])[m']?=some q->(i<j'\/(j'=i/\k<m'))->(j'<j\/(j'=j/\m'<m))->q.2.key≠key
theorem Q7.start(segs:List (List (Nat×Rec)))(i k:Nat)(key:Nm):Q7 segs i k key i 0:=fun j' m' q _ h1 h2=>by omega
theorem Q7.next{segs:List (List (Nat×Rec))}{i k:Nat}{key:Nm}{j m:Nat}{q:Nat×Rec}(h:Q7 segs i k key j m)(hq:(segs.getD j [])[m]?=some q)(hn:¬((i<j\/k<m)/\q.2.key=key))(hij:i<=j):Q7 segs i k key j (m+1):=by
 intro j' m' q' h1 h2 h3;by_cases e:j'=j/\m'=m
 ·obtain⟨rfl,rfl⟩:=e;rw[hq] at h1;injection h1 with h1;subst h1;intro hk;exact hn ⟨by omega,hk⟩
 ·exact h j' m' q' h1 h2 (by omega)
theorem Q7.seg{segs:List (List (Nat×Rec))}{i k:Nat}{key:Nm}{j:Nat}(h:Q7 segs i k key j (segs.getD j []).length):Q7 segs i k key (j+1) 0:=by
 intro j' m' q h1 h2 h3;have hm:=(List.getElem?_eq_some_iff.1 h1).1;refine h j' m' q h1 h2 ?_;by_cases e:j'=j
 ·subst e;exact .inr ⟨rfl,hm⟩
 ·omega
theorem Q7.all{segs:List (List (Nat×Rec))}{i k:Nat}{key:Nm}(h:Q7 segs i k key segs.length 0):¬b0Q segs i k key:=by
 rintro⟨j,m,q,h1,h2,h3⟩;have hj:j<segs.length:=by
  rcases Nat.lt_or_ge j segs.length with h|h
  ·exact h
  ·rw[List.getD_eq_getElem?_getD,List.getElem?_eq_none h] at h1;simp at h1
 exact h j m q h1 h2 (.inl hj) h3
theorem b7y(rb gen i k:Nat)(ids:List Int)(bss:List (List UInt8))(w:World)(h:a0C w rb gen ids bss)(hn:ids.length<=1000)(hi:i<ids.length)(hk:k<(A9 (bss.getD i [])).length):
 Calls Tryz.prog 73 #[l7 rb,.int .i64 i,.int .i64 k] w fun e w'=>e=.returned (.bool (U7 (y8 bss) i k))/\Ext w w':=by
 obtain⟨sa,sc,hb,hsc,hsc2,hbl,hsegs⟩:=id h;obtain⟨g,rfl,s0,s2,u,s1,hrow⟩:=hsegs i hi;have hib:i<bss.length:=by omega
 have hsegi:=U0 bss i hib;have hp:(A9 (bss.getD i []))[k]?=some (A9 (bss.getD i []))[k]:=List.getElem?_eq_getElem hk;obtain⟨P,hP⟩:∃P,(A9 (bss.getD i []))[k]=P:=⟨_,rfl⟩;rw[hP] at hp;clear hP s2 hsegs;obtain⟨L,hL⟩:∃L,A9 (bss.getD i [])=L:=⟨_,rfl⟩;rw[hL] at hk hsegi hrow hp;clear hL hib;obtain⟨gr,rc,rfl,hrc,hrc2,hgr,hcells⟩:=b1n a3C hrow hp;have hsp:((y8 bss).getD i [])[k]?=some P:=by rw[hsegi];exact hp
 have q0:=hcells 0 _ rfl;have q1:=hcells 1 _ rfl;have q2:=hcells 2 _ rfl;have q3:=hcells 3 _ rfl;have q4:=hcells 4 _ rfl;rw[Nat.add_zero] at q0;have b1:=(hb.cell 1).trans (show _=some (Value.slice (some ⟨g,0,none⟩) ids.length sc) from rfl);have hki:(k:Int)<(L.length:Int):=by omega
 have hii:(i:Int)<(ids.length:Int):=by omega
 unfold maxLen at hrc2;have hX:j6 (w.alloc (.cells #[.int .u64 P.2.seq,.string ⟨P.2.key.toArray⟩,.string ⟨P.2.val.toArray⟩,.bool P.2.del,.int .i64 P.2.size] 116)) w.heap.size 116 #[.int .u64 P.2.seq,.string ⟨P.2.key.toArray⟩,.string ⟨P.2.val.toArray⟩,.bool P.2.del,.int .i64 P.2.size]:=j6.new _ _ rfl;have x3:=(hX.cell 3).trans (show _=some (Value.bool P.2.del) from rfl);have hE0:Ext w (w.alloc (.cells #[.int .u64 P.2.seq,.string ⟨P.2.key.toArray⟩,.string ⟨P.2.val.toArray⟩,.bool P.2.del,.int .i64 P.2.size] 116)):=(Ext.refl w).new _;have H:=Lib.hid h;have HX:=Lib.hid hX;have HSP:=Lib.hid hsp;have HE0:=Lib.hid hE0;clear h hX hcells hrow hp hsp hE0 hsegi;unfold l7
 cases hdel:P.2.del with
 | true=>
  rw[hdel] at q3 x3;have hfin:U7 (y8 bss) i k=false:=(a3l (b:=false) (by
   constructor
   ·intro h;cases h
   ·rintro⟨q,h1,h2,_⟩;rw[HSP.out] at h1;injection h1 with h1;subst h1;rw[hdel] at h2;cases h2)).symm
  have HF:=Lib.hid hfin;have HE1:=Lib.hid ((Ext.refl w).new (.cells #[.int .u64 P.2.seq,.string ⟨P.2.key.toArray⟩,.string ⟨P.2.val.toArray⟩,.bool true,.int .i64 P.2.size] 116));clear hfin hdel;go_enter Tryz.func73,Tryz.ntmps73
  go_wp2_with fail
  go_ret
  exact⟨by rw[HF.out];rfl,HE1.out⟩
 | false=>
  rw[hdel] at q3 x3 HX HE0;have HD:=Lib.hid hdel;clear hdel;go_enter Tryz.func73,Tryz.ntmps73
  go_wp2_with fail
  go_loopw [8] (fun j wr=>∃jn:Nat,j=.int .i64 jn/\i<=jn/\jn<=ids.length/\Q7 (y8 bss) i k P.2.key jn 0/\Ext (w.alloc (.cells #[.int .u64 P.2.seq,.string ⟨P.2.key.toArray⟩,.string ⟨P.2.val.toArray⟩,.bool false,.int .i64 P.2.size] 116)) wr) (fun j _=>ids.length - (intOf j).toNat)
  case atStart=>exact⟨i,rfl,by omega,by omega,Q7.start _ _ _ _,Ext.refl _⟩
  case round=>
   obtain⟨j,rfl,hij,hj,hNL,hE⟩:=hrel;have b1r:=hE.cell (HE0.out.cell b1);by_cases hlt:j<ids.length
   ·obtain⟨sa',sc',hb',_,_,_,hsegs'⟩:=id ((H.out.ext HE0.out).ext hE);obtain⟨g',hg',t0,t2,u',t1,hrow'⟩:=hsegs' j hlt;have hsa:=(b1r.symm.trans (hb'.cell 1)).trans (show _=some (Value.slice sa' ids.length sc') from rfl);have e1:sa'=some ⟨g,0,none⟩:=by injection hsa with e;injection e with e1 e2 e3;exact e1.symm
    rw[e1] at hg';injection hg' with hg';injection hg' with hg';subst hg';obtain⟨ua',uc',rfl⟩:=hrow'.slice;have hcp:=hrow'.cap;have hsegj:=U0 bss j (by omega);obtain⟨M,hM⟩:∃M,A9 (bss.getD j [])=M:=⟨_,rfl⟩;rw[hM] at hsegj hrow' t1 hcp;unfold maxLen at hcp;have hji:(j:Int)<(ids.length:Int):=by omega
    have hXr:j6 wr w.heap.size 116 _:=(hE.block _ HX.out.lt).trans HX.out;have HXR:=Lib.hid hXr;have HE:=Lib.hid hE;have HR:=Lib.hid hrow';have HNL:=Lib.hid hNL;have HSJ:=Lib.hid hsegj;clear hXr hE hrow' hNL hsegj hM t0 t2 hsegs' hb' hsa e1 HX;go_wp2_with fail
    go_loopw [9] (fun m wi=>∃mn:Nat,m=.int .i64 mn/\mn<=M.length/\Q7 (y8 bss) i k P.2.key j mn/\Ext wr wi) (fun m _=>M.length - (intOf m).toNat)
    case atStart=>exact⟨0,rfl,by omega,HNL.out,Ext.refl _⟩
    case round=>
     rename World=>wi
     obtain⟨m,rfl,hm,hNLm,hEi⟩:=hrel;have b1i:=hEi.cell b1r;have t1i:=hEi.cell t1;by_cases hml:m<M.length
     ·have hpm:M[m]?=some M[m]:=List.getElem?_eq_getElem hml;obtain⟨Q,hQ⟩:∃Q,M[m]=Q:=⟨_,rfl⟩;rw[hQ] at hpm;obtain⟨gm,cm,em,hcm,hcm2,hgm,hcells⟩:=b1n a3C (HR.out.keep fun b hb=>hEi.block b (HR.out.lt hb)) hpm;injection em with e1 e2 e3;subst e1;subst e3;have y1:=hcells 1 _ rfl;have hXi:j6 wi w.heap.size 116 _:=(hEi.block _ HXR.out.lt).trans HXR.out;have z1:=(hXi.cell 1).trans (show _=some (Value.string ⟨P.2.key.toArray⟩) from rfl);have hmi:(m:Int)<(M.length:Int):=by omega
      have hsm:((y8 bss).getD j [])[m]?=some Q:=by rw[HSJ.out];exact hpm
      have HSM:=Lib.hid hsm;have HN:=Lib.hid hNLm;have HEI:=Lib.hid hEi;clear hsm hNLm hEi hcells hXi hpm hQ e2;by_cases c1:(i:Int)<(j:Int)
      ·have hlat:i<j\/k<m:=by omega
       by_cases hkey:Q.2.key=P.2.key
       ·have hx:(Q.2.key==P.2.key)=true:=beq_iff_eq.2 hkey;have hfin:U7 (y8 bss) i k=false:=(a3l (b:=false) (by
         constructor
         ·intro h;cases h
         ·rintro⟨q,h1,h2,h3⟩;rw[HSP.out] at h1;injection h1 with h1;subst h1;exact absurd ⟨j,m,Q,HSM.out,by omega,hkey⟩ h3)).symm
        have HFN:=Lib.hid hfin;clear hfin hkey;go_wp2_with fail
        go_quiet (fail)
        go_wp2;go_ret;exact⟨by rw[HFN.out];rfl,HE0.out.trans (HE.out.trans (HEI.out.trans (Ext.drewN _ _)))⟩
       ·have hx:(Q.2.key==P.2.key)=false:=beq_eq_false_iff_ne.2 hkey;have hnx:=HN.out.next HSM.out (fun h=>hkey h.2) hij;have HNX:=Lib.hid hnx;clear hnx hkey;go_wp2_with fail
        go_quiet (fail)
        go_wp2;go_roundw
        case rel=>exact⟨m+1,by go_num,by omega,HNX.out,HEI.out.trans (Ext.drewN _ _)⟩
        case measure=>simp[intOf];omega
      ·by_cases c2:(k:Int)<(m:Int)
       ·have hlat:i<j\/k<m:=by omega
        by_cases hkey:Q.2.key=P.2.key
        ·have hx:(Q.2.key==P.2.key)=true:=beq_iff_eq.2 hkey;have hfin:U7 (y8 bss) i k=false:=(a3l (b:=false) (by
          constructor
          ·intro h;cases h
          ·rintro⟨q,h1,h2,h3⟩;rw[HSP.out] at h1;injection h1 with h1;subst h1;exact absurd ⟨j,m,Q,HSM.out,by omega,hkey⟩ h3)).symm
         have HFN:=Lib.hid hfin;clear hfin hkey;go_wp2_with fail
         go_quiet (fail)
         go_wp2;go_ret;exact⟨by rw[HFN.out];rfl,HE0.out.trans (HE.out.trans (HEI.out.trans (Ext.drewN _ _)))⟩
        ·have hx:(Q.2.key==P.2.key)=false:=beq_eq_false_iff_ne.2 hkey;have hnx:=HN.out.next HSM.out (fun h=>hkey h.2) hij;have HNX:=Lib.hid hnx;clear hnx hkey;go_wp2_with fail
         go_quiet (fail)
         go_wp2;go_roundw
         case rel=>exact⟨m+1,by go_num,by omega,HNX.out,HEI.out.trans (Ext.drewN _ _)⟩
         case measure=>simp[intOf];omega
       ·have hnx:=HN.out.next HSM.out (fun h=>by omega) hij;have HNX:=Lib.hid hnx;clear hnx;go_wp2_with fail
        go_quiet (fail)
        go_wp2;go_roundw
        case rel=>exact⟨m+1,by go_num,by omega,HNX.out,HEI.out.trans (Ext.drewN _ _)⟩
        case measure=>simp[intOf];omega
     ·obtain rfl:m=M.length:=by omega
      have hnx:Q7 (y8 bss) i k P.2.key (j+1) 0:=Q7.seg (by rw[HSJ.out];exact hNLm);have HNX:=Lib.hid hnx;have HEI:=Lib.hid hEi;clear hnx hNLm hEi;go_wp2_with fail
      go_roundw
      case rel=>exact⟨j+1,by go_num,by omega,by omega,HNX.out,HE.out.trans HEI.out⟩
      case measure=>simp[intOf];omega
   ·obtain rfl:j=ids.length:=by omega
    have hfin:U7 (y8 bss) i k=true:=(a3l (b:=true) (by
     refine⟨fun _=>⟨P,HSP.out,HD.out,Q7.all ?_⟩,fun _=>rfl⟩;have:(y8 bss).length=ids.length:=by unfold y8;rw[List.length_map];exact hbl
     rw[this];exact hNL)).symm
    have HFN:=Lib.hid hfin;have HE:=Lib.hid (HE0.out.trans hE);clear hfin hNL hE;go_wp2_with fail
    go_ret;exact⟨by rw[HFN.out];rfl,HE.out⟩
end
section
open Go.RowKit Go.Lib Go.Maps Dk Pl
theorem b4v:(Tryz.prog.info? 68).map (fun i=>(i.zero,i.size,i.bytes))=some (some (.agg #[.int .i64 0,.int .i64 0,.int .i64 0,.int .i64 0,.int .i64 0]),5,40):=by kernel_rfl
theorem a8D(rb gen:Nat)(ids:List Int)(bss:List (List UInt8))(w:World)(h:a0C w rb gen ids bss)(hn:ids.length<=1000)(hl:∀i,(bss.getD i []).length<=1099511627776):
 Calls Tryz.prog 24 #[l7 rb] w fun e w'=>∃u,e=.returned u/\w'.ownsRow w.heap.size 68 5 u ids.length ((U4 ids (y8 bss) ids.length).flatMap statCells)/\Ext w w':=by
 obtain⟨i0,hi,hz0,hz1,hz2⟩:=info_parts b4v;obtain⟨n,hnn⟩:∃n,ids.length=n:=⟨_,rfl⟩;obtain⟨sa,sc,hb,hsc,hsc2,hbl,hsegs⟩:=id h;rw[hnn] at hb hsc hbl hsegs hn⊢;have b1:=(hb.cell 1).trans (show _=some (Value.slice sa n sc) from rfl);have H:=Lib.hid h;have HSG:=Lib.hid hsegs;have HLL:=Lib.hid hl;have HNN:=Lib.hid hnn;have HBL:=Lib.hid hbl;clear h hsegs hl hnn hbl hb;unfold l7;go_enter Tryz.func24,Tryz.ntmps24
 go_wp2;go_loopw [3,4] (fun u i wr=>∃k:Nat,i=.int .i64 k/\k<=n/\wr.ownsRow w.heap.size 68 5 u k (((U4 ids (y8 bss) n).take k).flatMap statCells)/\Ext w wr) (fun _ i _=>n - (intOf i).toNat)
 case atStart=>exact⟨0,rfl,by omega,⟨rfl,Or.inl ⟨rfl,rfl⟩⟩,Ext.refl w⟩
 case round=>
  obtain⟨k,rfl,hk,hown,hE⟩:=hrel;obtain⟨ua0,uc0,rfl⟩:=ownsRow_form hown;have b1r:=hE.cell b1;by_cases hlt:k<n
  ·obtain⟨g,rfl,s0,-,u,s1,hrow⟩:=HSG.out k hlt;obtain⟨ua,uc,rfl⟩:=hrow.slice;have hcp:=hrow.cap;have s0':=hE.cell s0;have s1':=hE.cell s1;have hki:(k:Int)<(n:Int):=by omega
   have hlk:=HLL.out k;have hlen:=a9S (bss.getD k []);have hszs:=a1N (bss.getD k []);have hpos:=a3L (bss.getD k []);have hlvc:∀(m:Nat)(wx:World),m<(A9 (bss.getD k [])).length->Ext w wx->Calls Tryz.prog 73 #[.pointer (some ⟨rb,0,none⟩),.int .i64 k,.int .i64 m] wx fun e w'=>e=.returned (.bool (U7 (y8 bss) k m))/\Ext wx w':=fun m wx hm hx=>b7y rb gen k m ids bss wx (H.out.ext hx) (by rw[HNN.out];exact hn) (by rw[HNN.out];exact hlt) hm;have hso:statOf ids (y8 bss) k=O8 (ids.getD k 0) (A9 (bss.getD k [])) (U7 (y8 bss) k) (A9 (bss.getD k [])).length:=by
    unfold statOf;rw[U0 _ _ (by have:=HBL.out;omega)]
   obtain⟨L,hL⟩:∃L,A9 (bss.getD k [])=L:=⟨_,rfl⟩;rw[hL] at hrow s1' hlen hszs hpos hlvc hso hcp;have hLm:L.length<=1099511627776:=by omega
   have hLs:sizes L<=1099511627776:=by omega
   have HSO:=Lib.hid hso;have HLV:=Lib.hid hlvc;have HPOS:=Lib.hid hpos;have HR:=Lib.hid hrow;have HE:=Lib.hid hE;have HO:=Lib.hid hown;obtain⟨idk,hidk⟩:∃idk,ids.getD k 0=idk:=⟨_,rfl⟩;rw[hidk] at s0';have HID:=Lib.hid hidk;clear hso hlvc hpos hrow hE hown s0 s1 hL hszs hlk hlen hidk hcp;go_wp2_with fail
   have hbx0:j6 (wr.alloc (.cells #[.int .i64 idk,.int .i64 0,.int .i64 0,.int .i64 0,.int .i64 0] 68)) wr.heap.size 68 #[.int .i64 idk,.int .i64 0,.int .i64 0,.int .i64 0,.int .i64 0]:=j6.new _ _ (by simp);have hE0:Ext wr (wr.alloc (.cells #[.int .i64 idk,.int .i64 0,.int .i64 0,.int .i64 0,.int .i64 0] 68)):=(Ext.refl wr).new _;go_loopw [6] (fun j wi=>∃m:Nat,j=.int .i64 m/\m<=L.length/\j6 wi wr.heap.size 68 (statCells (O8 idk L (U7 (y8 bss) k) m)).toArray/\Ext wr wi) (fun j _=>L.length - (intOf j).toNat)
   case atStart=>exact⟨0,rfl,by omega,hbx0,hE0⟩
   case round=>
    clear hbx0 hE0;rename World=>wi
    obtain⟨m,rfl,hm,hbx,hEi⟩:=hrel;obtain⟨T,hT⟩:∃T,O8 idk L (U7 (y8 bss) k) m=T:=⟨_,rfl⟩;obtain⟨⟨q1,q2,q3,q4,q5⟩,q6,q7⟩:=a4t idk (U7 (y8 bss) k) HPOS.out m hm;have q8:=Y9 L m;rw[hT] at hbx q1 q2 q3 q4 q5 q6 q7;have b1i:=hEi.cell b1r;have s1i:=hEi.cell s1';by_cases hml:m<L.length
    ·have hp:L[m]?=some L[m]:=List.getElem?_eq_getElem hml;obtain⟨P,hP⟩:∃P,L[m]=P:=⟨_,rfl⟩;rw[hP] at hp;obtain⟨gr,cap,hu,hcap,hcap2,hgl,hcells⟩:=b1n a3C (HR.out.keep fun b hb=>(HE.out.trans hEi).block b (HR.out.lt hb)) hp;injection hu with h1 h2 h3;subst h1;subst h3;have hmi:(m:Int)<(L.length:Int):=by omega
     have f4:=hcells 4 _ rfl;have hst:=a2A (id:=idk) (lv:=U7 (y8 bss) k) hp;have hsp:=a4s hp;have hsq:=Y9 L (m+1);rw[hT] at hst;obtain⟨ti,tr,tb,td,te⟩:=T;dsimp only at q1 q2 q3 q4 q5 q6 q7;simp only[statCells] at hbx;have hsbE:=HE.out.trans hEi;have hwz:wr.heap.size<=wr.heap.size:=Nat.le_refl _;have hwz2:w.heap.size<=wr.heap.size:=HE.out.size;have hE3:Ext w ((wi.setCell ⟨wr.heap.size,1,none⟩ (.int .i64 ((tr:Int)+1))).setCell ⟨wr.heap.size,2,none⟩ (.int .i64 ((tb:Int)+(P.2.size:Int)))):=(hsbE.setN (a:=⟨wr.heap.size,1,none⟩) hwz2).setN (a:=⟨wr.heap.size,2,none⟩) hwz2;have hR3:Ext wr ((wi.setCell ⟨wr.heap.size,1,none⟩ (.int .i64 ((tr:Int)+1))).setCell ⟨wr.heap.size,2,none⟩ (.int .i64 ((tb:Int)+(P.2.size:Int)))):=(hEi.setN (a:=⟨wr.heap.size,1,none⟩) hwz).setN (a:=⟨wr.heap.size,2,none⟩) hwz;have hb2:=hbx.set 1 (.int .i64 ((tr:Int)+1));have hb3:=hb2.set 2 (.int .i64 ((tb:Int)+(P.2.size:Int)));have a1:=(hbx.cell 1).trans (show _=some (Value.int .i64 tr) from rfl);have e1:=hbx.free 1;have a2:=(hb2.cell 2).trans (show _=some (Value.int .i64 tb) from by simp);have e2:=hb2.free 2;have r1:tr+1<=1099511627776:=by omega
     have r2:tb+P.2.size<=1099511627776:=by omega
     have r3:td+1<=1099511627776:=by omega
     have r4:te+P.2.size<=1099511627776:=by omega
     have hlc:=HLV.out m _ hml hE3;obtain⟨bl,hbl2⟩:∃bl,U7 (y8 bss) k m=bl:=⟨_,rfl⟩;rw[hbl2] at hst hlc;have HLC:=Lib.hid hlc;have HB3:=Lib.hid hb3;have HR3:=Lib.hid hR3;have HST:=Lib.hid hst;clear hlc hb3 hE3 hR3 hst hb2 hcells hbl2 hT hbx hp hwz hwz2 q6 q7 q8 hsp hsq q1 q2 q3 q4 q5 hP hsbE h2;go_wp2_with fail
     refine HLC.out.mono ?_;rintro e w4 ⟨rfl,hE4⟩;have hb4:j6 w4 wr.heap.size 68 _:=(hE4.block _ HB3.out.lt).trans HB3.out;have hR4:=HR3.out.trans hE4
     cases bl with
     | true=>
      have HB4:=Lib.hid hb4;have HR4:=Lib.hid hR4;clear hb4 hR4 hE4 HLC;go_wp2;go_roundw
      case rel=>
       refine⟨m+1,by go_num,by omega,?_,HR4.out⟩;rw[HST.out];have:=HB4.out;simpa [statCells,St.add] using this
      case measure=>simp[intOf];omega
     | false=>
      have c3:=(hb4.cell 3).trans (show _=some (Value.int .i64 td) from by simp);have g3:=hb4.free 3;have hb5:=hb4.set 3 (.int .i64 ((td:Int)+1));have c4:=(hb5.cell 4).trans (show _=some (Value.int .i64 te) from by simp);have g4:=hb5.free 4;have hb6:=hb5.set 4 (.int .i64 ((te:Int)+(P.2.size:Int)));have hR6:=(hR4.setN (a:=⟨wr.heap.size,3,none⟩) (u:=.int .i64 ((td:Int)+1)) (Nat.le_refl _)).setN (a:=⟨wr.heap.size,4,none⟩) (u:=.int .i64 ((te:Int)+(P.2.size:Int))) (Nat.le_refl _);have HB6:=Lib.hid hb6;have HR6:=Lib.hid hR6;clear hb4 hR4 hE4 HLC hb5 hb6 hR6;go_wp2;go_roundw
      case rel=>
       refine⟨m+1,by go_num,by omega,?_,HR6.out⟩;rw[HST.out];have:=HB6.out;simpa [statCells,St.add] using this
      case measure=>simp[intOf];omega
    ·obtain rfl:m=L.length:=by omega
     obtain⟨ti,tr,tb,td,te⟩:=T;simp only[statCells] at hbx;have v0:=(hbx.cell 0).trans (show _=some (Value.int .i64 ti) from rfl);have v1:=(hbx.cell 1).trans (show _=some (Value.int .i64 tr) from rfl);have v2:=(hbx.cell 2).trans (show _=some (Value.int .i64 tb) from rfl);have v3:=(hbx.cell 3).trans (show _=some (Value.int .i64 td) from rfl);have v4:=(hbx.cell 4).trans (show _=some (Value.int .i64 te) from rfl);have hoi:wi.ownsRow w.heap.size 68 5 (.slice ua0 k uc0) k (((U4 ids (y8 bss) n).take k).flatMap statCells):=Dep.row HO.out wi fun b hb=>hEi.block b (World.ownsRow.lt HO.out b hb).2;have hwi:w.heap.size<=wi.heap.size:=(HE.out.trans hEi).size;have hso2:statOf ids (y8 bss) k=⟨ti,tr,tb,td,te⟩:=by rw[HSO.out,HID.out,hT]
     have htk:=a7Z (ids:=ids) (segs:=y8 bss) hlt;rw[hso2] at htk;have HTK:=Lib.hid htk;have HOI:=Lib.hid hoi;have HEI:=Lib.hid (HE.out.trans hEi);clear hso2 htk hoi hbx hT HSO HID HLV hEi q1 q2 q3 q4 q5 q6 q7 q8 HR HO HE;go_wp2_with (at_builtin;go_must (refine p8 rfl _ _ 64 rfl w.heap.size 68 i0 (.agg #[.int .i64 0,.int .i64 0,.int .i64 0,.int .i64 0,.int .i64 0]) 5 40 Tryz.underlying64 hi hz0 hz1 hz2 rfl (by omega) (.slice ua0 k uc0) k _ rfl (World.ownsRow.alloc HOI.out (.cells #[.int .i64 ti,.int .i64 tr,.int .i64 tb,.int .i64 td,.int .i64 te] 68)) (.slice (some ⟨wi.heap.size,0,none⟩) 1 1) 1 [.int .i64 ti,.int .i64 tr,.int .i64 tb,.int .i64 td,.int .i64 te] rfl ⟨_,_,rfl,by omega,⟨by omega,fun h=>by cases h⟩,fun _=>⟨_,rfl,World.news_of_block (cs:=#[.int .i64 ti,.int .i64 tr,.int .i64 tb,.int .i64 td,.int .i64 te]) (t:=68) (fr:=(0,0)) (heap_alloc_new wi _)⟩⟩ rfl (by simp[Value.oneCell']) (by unfold maxLen;omega) (by omega) (by simp;omega) ?_);intro b6 c6 w6 hown6 hgrow6 hat6;have HO6:=Lib.hid hown6;have HG6:=Lib.hid hgrow6;clear hown6 hgrow6 hat6)
     go_roundw
     case rel=>
      refine⟨k+1,by go_num,by omega,?_,?_⟩
      ·have:=HO6.out;rw[HTK.out,List.flatMap_append];simpa [statCells] using this
      ·exact Below.grown (HEI.out.new _) HG6.out (by simp;omega) (fun j hj=>(World.ownsRow.lt HOI.out j hj).1)
     case measure=>simp[intOf];omega
  ·obtain rfl:k=n:=by omega
   have htk:(U4 ids (y8 bss) k).take k=U4 ids (y8 bss) k:=List.take_of_length_le (by rw[a2h];exact Nat.le_refl _);rw[htk] at hown;have HF:=Lib.hid hown;have HE:=Lib.hid hE;clear hown hE;go_wp2;go_ret;exact⟨_,rfl,HF.out,HE.out⟩
end
end Go.Proofs.YtgpbhjjajpbeeaaGreatDoor
