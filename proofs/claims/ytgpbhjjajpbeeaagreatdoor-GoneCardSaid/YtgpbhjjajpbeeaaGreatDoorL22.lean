/- A part of what the last file proves. -/
import Derived.Test.YtgpbhjjajpbeeaaGreatDoorL21
import Derived.Laws.StructEq
import Derived.OwnWalk
set_option linter.all false
set_option maxRecDepth 100000
set_option maxHeartbeats 6400000
namespace Go.Proofs.YtgpbhjjajpbeeaaGreatDoor
section
open Go.RowKit Go.Lib Go.Maps Dk Pl
def a00(x:Int):List Value:=[.int .i64 x,.slice none 0 0,.int .i64 0]
def c3G(w:World)(B b:Nat)(ids:List Int)(v:Value):Prop:=o7 w b 50 #[.int .u64 0,v]/\w.ownsRow B 54 3 v ids.length (ids.flatMap a00)
theorem b9n(ids:List Int)(i:Nat)(x:Int)(h:ids[i]?=some x)(j:Nat)(hj:j<3):(ids.flatMap a00)[3*i+j]?=(a00 x)[j]?:=by
 induction ids generalizing i with
 | nil=>simp at h
 | cons y l ih=>
  rw[List.flatMap_cons]
  cases i with
  | zero=>
   simp at h;subst h
   rw[List.getElem?_append_left (by simp[a00];omega)];simp
  | succ i=>
   simp at h;rw[List.getElem?_append_right (by simp[a00];omega),show 3*(i+1)+j - (a00 y).length=3*i+j by simp[a00];omega];exact ih i h
theorem c3G.ids{w:World}{B b:Nat}{ids:List Int}{v:Value}(h:c3G w B b ids v)(hl:ids.length<=1000):c6h w b ids:=by
 obtain⟨h1,h2⟩:=h;have hm:maxLen<=9223372036854775807:=by unfold maxLen;omega
 rcases h2.2 with⟨rfl,h0⟩|⟨g,cap,cur,rfl,_,hb,h4,h5,h6,h7⟩
 ·refine⟨0,none,0,by rw[h0];exact h1,by omega,by omega,fun i x hx=>?_⟩;have:=(List.getElem?_eq_some_iff.1 hx).1;omega
 ·refine⟨0,some ⟨g,0,none⟩,cap,h1,by omega,by omega,fun i x hx=>⟨g,rfl,?_⟩⟩;have e:=b9n ids i x hx 0 (by omega);rw[<-h7,List.getElem?_take] at e;split at e
  ·simp only[World.cell?,hb];rw[show i*3=3*i+0 by omega];simpa [a00] using e
  ·simp[a00] at e
theorem b9o:(Tryz.prog.info? 54).map (fun i=>(i.zero,i.size,i.bytes))=some (some (.agg #[.int .i64 0,.slice none 0 0,.int .i64 0]),3,40):=by kernel_rfl
end
section
open Go.RowKit Go.Lib Go.Maps Dk Pl
theorem b69(w:World):(zeroValue 160).run Tryz.prog w=.ok (.agg #[.int .i64 0,.int .i64 0,.int .i64 0,.int .u64 0,.string ⟨#[]⟩,.string ⟨#[]⟩,.bool false]) w:=by kernel_rfl
theorem fieldPlace(a b c d:Int)(k v:ByteArray)(e:Bool)(w:World):(Instr.field 160 (.agg #[.int .i64 a,.int .i64 b,.int .i64 c,.int .u64 d,.string k,.string v,.bool e]) 0).run Tryz.prog w=.ok (.agg #[.int .i64 a,.int .i64 b]) w:=by kernel_rfl
end
section
open Dk Pl
def J7(bss:List (List UInt8)):List (List (Nat×Rec)):=bss.map J9
theorem a3S(bss:List (List UInt8))(i:Nat)(hi:i<bss.length):(J7 bss).getD i []=J9 (bss.getD i []):=by
 unfold J7;rw[List.getD_eq_getElem?_getD,List.getD_eq_getElem?_getD,List.getElem?_map,List.getElem?_eq_getElem hi];rfl
def a9I(bss:List (List UInt8))(n:Nat):List Fd:=(List.range n).flatMap fun i=>(J9 (bss.getD i [])).map fun p=>(i,p)
theorem b0w(bss:List (List UInt8))(n:Nat):a9I bss (n+1)=a9I bss n++(J9 (bss.getD n [])).map fun p=>(n,p):=by
 unfold a9I;rw[List.range_succ,List.flatMap_append];simp
theorem a8y(bss:List (List UInt8)):∀n,Z5 bss n=(a9I bss n).foldl (fun m f=>a05 m f.2.2.key f) []:=by
 intro n
 induction n with
 | zero=>rfl
 | succ n ih=>
  rw[b0w,List.foldl_append,<-ih,List.foldl_map];rfl
def lastOf(key:Nm):List Fd->Option Fd
 | []=>none
 | f::l=>(lastOf key l).or (if f.2.2.key=key then some f else none)
theorem b0x(key:Nm):∀(l:List Fd)(m:List (Nm×Fd)),D9 (l.foldl (fun m f=>a05 m f.2.2.key f) m) key=(lastOf key l).or (D9 m key):=by
 intro l
 induction l with
 | nil=>intro m;simp[lastOf]
 | cons f l ih=>
  intro m;rw[List.foldl_cons,ih,a6t,lastOf];by_cases h:key=f.2.2.key
  ·subst h;cases lastOf f.2.2.key l<;>simp
  ·rw[if_neg h,if_neg (fun e=>h e.symm)];cases lastOf key l<;>simp
theorem a9J(key:Nm):∀(a b:List Fd),lastOf key (a++b)=(lastOf key b).or (lastOf key a):=by
 intro a b
 induction a with
 | nil=>simp[lastOf]
 | cons f a ih=>
  rw[List.cons_append,lastOf,ih,lastOf];cases lastOf key b<;>simp
theorem b39{key:Nm}:∀{l:List Fd}{f:Fd},lastOf key l=some f->f∈l/\f.2.2.key=key:=by
 intro l
 induction l with
 | nil=>intro f h;cases h
 | cons g l ih=>
  intro f h;rw[lastOf] at h
  cases e:lastOf key l with
  | some x=>
   rw[e] at h;simp at h;subst h
   exact⟨List.mem_cons_of_mem _ (ih e).1,(ih e).2⟩
  | none=>
   rw[e] at h;simp at h;obtain⟨h1,rfl⟩:=h;exact⟨List.mem_cons_self ..,h1⟩
def sizes(l:List (Nat×Rec)):Nat:=(l.map fun p=>p.2.size).sum
theorem a8z:∀(n off:Nat)(l:List UInt8),off<=l.length->off+sizes (O9 n off l)<=l.length:=by
 intro n
 induction n with
 | zero=>intro off l h;simpa [sizes,O9] using h
 | succ n ih=>
  intro off l h;unfold O9
  cases hd:dec (l.drop off) with
  | none=>simpa [sizes] using h
  | some r=>
   have h2:=(a2S hd).2;rw[List.length_drop] at h2;have:=ih (off+r.size) l (by omega);simp only[sizes,List.map_cons,List.sum_cons] at this⊢;omega
theorem b1w:∀(n off:Nat)(l:List UInt8),∀p∈O9 n off l,17<=p.2.size:=by
 intro n
 induction n with
 | zero=>intro off l p h;cases h
 | succ n ih=>
  intro off l p hp;unfold O9 at hp
  cases hd:dec (l.drop off) with
  | none=>rw[hd] at hp;cases hp
  | some r=>
   rw[hd] at hp;rcases List.mem_cons.1 hp with rfl|hp
   ·exact(a2S hd).1
   ·exact ih _ _ p hp
theorem b2G(l:List UInt8):sizes (J9 l)<=l.length:=by
 have:=a8z (l.length+1) 0 l (Nat.zero_le _);unfold J9;omega
theorem b6O(l:List UInt8):∀p∈J9 l,17<=p.2.size:=b1w _ _ _
end
section
open Go.RowKit Go.Lib Go.Maps Dk Pl
end
section
open Go.RowKit Go.Lib Go.Maps Dk Pl
theorem c3K{γ:Type}(f:γ->List Value){N:Nat}(hf:∀x,(f x).length=N):∀(l:List γ)(i:Nat)(x:γ),l[i]?=some x->∀j,j<N->(l.flatMap f)[i*N+j]?=(f x)[j]?:=by
 intro l
 induction l with
 | nil=>intro i x h;simp at h
 | cons y l ih=>
  intro i x h j hj;rw[List.flatMap_cons]
  cases i with
  | zero=>
   simp at h;subst h
   rw[List.getElem?_append_left (by rw[hf];omega)];simp
  | succ i=>
   simp at h;have e:(i+1)*N+j - N=i*N+j:=by rw[Nat.succ_mul];omega
   rw[List.getElem?_append_right (by rw[hf,Nat.succ_mul];omega),hf,e];exact ih i x h j hj
theorem b1C{γ:Type}{f:γ->List Value}{N:Nat}(hf:∀x,(f x).length=N){w:World}{B:Nat}{e:TypeId}{v:Value}{l:List γ}(h:w.ownsRow B e N v l.length (l.flatMap f)){k:Nat}{t:γ}(hk:l[k]?=some t):
 ∃g cap,v=.slice (some ⟨g,0,none⟩) l.length cap/\l.length<=cap/\g<w.heap.size/\B<=g/\∀c x,(f t)[c]?=some x->w.cell? ⟨g,k*N+c,none⟩=some x:=by
 have hkl:k<l.length:=(List.getElem?_eq_some_iff.1 hk).1;rcases h.2 with⟨_,h0⟩|⟨g,cap,cur,rfl,hb,hg,h1,h2,h3,h4⟩
 ·omega
 ·refine⟨g,cap,rfl,h1,lt_of_block hg,hb,fun c x hx=>?_⟩;have hc:c<N:=by
   have:=(List.getElem?_eq_some_iff.1 hx).1;rw[hf] at this;exact this
  have e1:=c3K f hf l k t hk c hc;rw[hx] at e1;have hlt:k*N+c<l.length*N:=by
   have:(k+1)*N<=l.length*N:=Nat.mul_le_mul_right _ hkl;rw[Nat.succ_mul] at this;omega
  rw[<-h4,List.getElem?_take,if_pos hlt] at e1;simp only[World.cell?,hg];simpa using e1
end
section
open Go.RowKit Go.Lib Go.Maps Dk Pl
def a5W(p:Int×Value×Nat):List Value:=[.int .i64 p.1,p.2.1,.int .i64 p.2.2]
def c43(W:World)(g i:Nat)(ids:List Int)(bss:List (List UInt8)):Prop:=
 W.cell? ⟨g,i*3,none⟩=some (.int .i64 (ids.getD i 0))/\W.cell? ⟨g,i*3+2,none⟩=some (.int .i64 ((bss.getD i []).length:Nat))/\
  ∃u,W.cell? ⟨g,i*3+1,none⟩=some u/\a2p W 116 5 u (J9 (bss.getD i [])).length ((J9 (bss.getD i [])).flatMap a3t)
def a0I(W:World)(rb gen:Nat)(ids:List Int)(bss:List (List UInt8)):Prop:=
 ∃(a:Option Addr)(cap:Nat),o7 W rb 50 #[.int .u64 gen,.slice a ids.length cap]/\ids.length<=cap/\cap<=9223372036854775807/\bss.length=ids.length/\∀i,i<ids.length->∃g,a=some ⟨g,0,none⟩/\c43 W g i ids bss
structure RSt(W:World)(B rb gen:Nat)(ids:List Int)(bss:List (List UInt8))(rows:List (Int×Value×Nat))(v:Value):Prop where
 box:o7 W rb 50 #[.int .u64 gen,v]
 row:W.ownsRow B 54 3 v rows.length (rows.flatMap a5W)
 len:rows.length=bss.length
 seg:∀(i:Nat)p,rows[i]?=some p->p.1=ids.getD i 0/\p.2.2=(bss.getD i []).length/\W.ownsRow B 116 5 p.2.1 (J9 (bss.getD i [])).length ((J9 (bss.getD i [])).flatMap a3t)
theorem b6f{w:World}{B:Nat}{e:TypeId}{size:Nat}{v:Value}{n:Nat}{xs:List Value}(h:w.ownsRow B e size v n xs):a2p w e size v n xs:=by
 refine⟨h.1,?_⟩;rcases h.2 with h|⟨g,cap,cur,rfl,_,h2,h3,h4,h5,h6⟩
 ·exact .inl h
 ·exact .inr ⟨g,cap,cur,_,rfl,h2,h3,h4,h5,h6⟩
theorem RSt.store{W:World}{B rb gen:Nat}{ids:List Int}{bss:List (List UInt8)}{rows:List (Int×Value×Nat)}{v:Value}(h:RSt W B rb gen ids bss rows v)(hl:bss.length=ids.length):a0I W rb gen ids bss:=by
 have hrl:rows.length=ids.length:=h.len.trans hl;have hrow:=h.row;have hm:maxLen<=9223372036854775807:=by unfold maxLen;omega
 have hform:∃(a:Option Addr)(cap:Nat),v=.slice a ids.length cap/\ids.length<=cap/\cap<=9223372036854775807:=by
  rcases hrow.2 with⟨rfl,h0⟩|⟨g,cap,cur,rfl,_,_,h3,h4,_⟩
  ·exact⟨none,0,by rw[<-hrl,h0],by omega,by omega⟩
  ·exact⟨_,cap,by rw[hrl],by omega,by omega⟩
 obtain⟨a,cap,rfl,h1,h2⟩:=hform;refine⟨a,cap,h.box,h1,h2,hl,fun i hi=>?_⟩;have hp:rows[i]?=some rows[i]:=List.getElem?_eq_getElem (by omega);obtain⟨g,cap',e,-,-,-,hc⟩:=b1C (f:=a5W) (fun _=>rfl) hrow hp;injection e with e1 e2 e3;obtain⟨s1,s2,s3⟩:=h.seg i _ hp;have c0:=hc 0 _ rfl;have c1:=hc 1 _ rfl;have c2:=hc 2 _ rfl;rw[Nat.add_zero,s1] at c0;rw[s2] at c2;exact⟨g,e1,c0,c2,_,c1,b6f s3⟩
theorem RSt.keep{W W':World}{B rb gen:Nat}{ids:List Int}{bss:List (List UInt8)}{rows:List (Int×Value×Nat)}{v:Value}(h:RSt W B rb gen ids bss rows v)(hk:∀b,b<W.heap.size->W'.heap[b]?=W.heap[b]?):RSt W' B rb gen ids bss rows v where
 box:=(hk rb h.box.lt).trans h.box
 row:=Dep.row h.row W' fun b hb=>hk b (World.ownsRow.lt h.row b hb).2
 len:=h.len
 seg:=fun i p hp=>⟨(h.seg i p hp).1,(h.seg i p hp).2.1,Dep.row (h.seg i p hp).2.2 W' fun b hb=>hk b (World.ownsRow.lt (h.seg i p hp).2.2 b hb).2⟩
def c0W(W:World)(B rb gen:Nat)(ids:List Int)(bss:List (List UInt8)):Prop:=∀W':World,(∀b,B<=b->b<W.heap.size->W'.heap[b]?=W.heap[b]?)->a0I W' rb gen ids bss
theorem c0W.held{W:World}{F:Nat->Prop}{B rb gen:Nat}{ids:List Int}{bss:List (List UInt8)}(h:c0W W B rb gen ids bss)(hF:∀b,F b->b<B):Held W F (fun W=>a0I W rb gen ids bss):=
 ⟨fun b=>B<=b/\b<W.heap.size,fun b hb=>⟨hb.2,fun hf=>by have:=hF b hf;omega⟩,fun W' hw=>h W' fun b h1 h2=>hw b ⟨h1,h2⟩⟩
theorem RSt.new{W:World}{B B' rb gen:Nat}{ids:List Int}{bss:List (List UInt8)}{rows:List (Int×Value×Nat)}{v:Value}(h:RSt W B rb gen ids bss rows v)(hl:bss.length=ids.length)(hr:B<=rb)(hB:B'<=B):c0W W B' rb gen ids bss:=fun W' hk=>
 RSt.store (W:=W') (B:=B) (rows:=rows) (v:=v) ⟨(hk rb (by omega) h.box.lt).trans h.box,Dep.row h.row W' fun b hb=>hk b (by have:=(World.ownsRow.lt h.row b hb).1;omega) (World.ownsRow.lt h.row b hb).2,h.len,
  fun i p hp=>⟨(h.seg i p hp).1,(h.seg i p hp).2.1,Dep.row (h.seg i p hp).2.2 W' fun b hb=>hk b (by have:=(World.ownsRow.lt (h.seg i p hp).2.2 b hb).1;omega) (World.ownsRow.lt (h.seg i p hp).2.2 b hb).2⟩⟩ hl
def a4u(l:Fl)(w:World)(e:Ending)(w':World):Prop:=
 ∃v,e=.returned (.tuple #[v,.int .i64 (P9 l).2.1,strV (P9 l).2.2])/\Ext w w'/\(((P9 l).1=none/\v=.pointer none)\/∃g ids bss rb,(P9 l).1=some (g,ids,bss)/\a4j ids/\(∀i,(bss.getD i []).length<=1099511627776)/\v=y8 rb/\w.heap.size<=rb/\c0W w' w.heap.size rb g ids bss)
theorem b3q(v:Value)(l:Fl)(w:World)(h:a2s w v l)(hl:∀p∈l,p.2.length<=1099511627776):
 Calls Tryz.prog 17 #[v] w (a4u l w):=by
 obtain⟨i0,hi0,hz0,hz1,hz2⟩:=info_parts b9o;have hfd:=b0A v l H9 w h;have HFD:=Lib.hid hfd;have HF:=Lib.hid h;have HL:=Lib.hid hl;clear hfd h hl;unfold strV at HFD;unfold H9 at HFD;go_enter Tryz.func17,Tryz.ntmps17
 go_wp2_with fail
 refine HFD.out.mono ?_;rintro e w1 ⟨rfl,bv,rfl,hbv⟩
 cases hm:D9 l [109,97,110,105,102,101,115,116] with
 | none=>
  have hfin:a4u l w1 (.returned (.tuple #[.pointer none,.int .i64 5,.string ⟨#[]⟩])) w1:=by
   have e:=a3u hm;exact⟨.pointer none,by rw[e];rfl,Ext.refl w1,.inl ⟨by rw[e],rfl⟩⟩
  have HFIN:=Lib.hid hfin;clear hfin hbv HFD;go_wp2;go_ret3
  exact HFIN.out
 | some m=>
  rw[hm] at hbv;have hrm:=a9n bv m w1 hbv;have HRM:=Lib.hid hrm;clear hrm hbv HFD;go_wp2_with fail
  refine HRM.out.mono ?_;rintro e w5 ⟨gv,iv,ok,rfl,hE5,hcase⟩;clear HRM;rcases hcase with⟨hrd,rfl,rfl,rfl⟩|⟨gen,ids,hrd,rfl,rfl,hown⟩
  ·have hfin:a4u l w1 (.returned (.tuple #[.pointer none,.int .i64 6,.string ⟨#[]⟩])) w5:=by
    have e:=a4i hm hrd;exact⟨.pointer none,by rw[e];rfl,hE5,.inl ⟨by rw[e],rfl⟩⟩
   have HFIN:=Lib.hid hfin;clear hfin hrd hm hE5;go_wp2;go_ret3
   exact HFIN.out
  ·have hin:=b2T hrd;have hints:=OwnI.ints hown;obtain⟨xa,xc,rfl⟩:=ownsRow_form hown;have hf5:=HF.out.ext hE5;have hbox0:o7 (w5.alloc (.cells #[.int .u64 gen,.slice none 0 0] 50)) w5.heap.size 50 #[.int .u64 gen,.slice none 0 0]:=o7.new _ _ rfl;have hil:=hin.1;have HX:=Lib.hid hints;have HIN:=Lib.hid hin;have HE5:=Lib.hid hE5;have HF5:=Lib.hid hf5;have HM:=Lib.hid hm;have HRD:=Lib.hid hrd;clear hints hin hE5 hf5 hm hrd hown HF;go_wp2_with fail
   go_loopw [11] (fun i wr=>∃(k:Nat)(acc:List (List UInt8))(rows:List (Int×Value×Nat))(sv:Value),i=.int .i64 k/\k<=ids.length/\acc.length=k/\(∀b∈acc,b.length<=1099511627776)/\Q9 l ids []=Q9 l (ids.drop k) acc/\RSt wr w5.heap.size w5.heap.size gen ids acc rows sv/\Ext w5 wr) (fun i _=>ids.length - (intOf i).toNat)
   case atStart=>exact⟨0,[],[],.slice none 0 0,rfl,by omega,rfl,by simp,rfl,⟨hbox0,⟨rfl,Or.inl ⟨rfl,rfl⟩⟩,rfl,by simp⟩,(Ext.refl w5).new _⟩
   case round=>
    obtain⟨k,acc,rows,sv,rfl,hk,hal,hab,hsg,hS,hE⟩:=hrel;by_cases hlt:k<ids.length
    ·obtain⟨xb,rfl,xcell⟩:=HX.out.at hE hlt;have hr:=HIN.out.2 ids[k] (List.getElem_mem hlt);obtain⟨y,hy⟩:∃y:Nat,ids[k]=(y:Int):=⟨ids[k].toNat,by omega⟩;rw[hy] at xcell hr;have hnm:=a2y G8 y wr (by simp[G8]) (by omega);obtain⟨name,hname⟩:∃name,D7 G8 y=name:=⟨_,rfl⟩;have hdrop:ids.drop k=(y:Int)::ids.drop (k+1):=by rw[List.drop_eq_getElem_cons hlt,hy]
     rw[hdrop] at hsg;rw[hname] at hnm;have hf1:=HF5.out.ext hE;have HNA:=Lib.hid hnm;have HSG:=Lib.hid hsg;have HS:=Lib.hid hS;have HE:=Lib.hid hE;have HAB:=Lib.hid hab;have HY:=Lib.hid hy;have HNM:=Lib.hid hname;have HAL:=Lib.hid hal;have HF1:=Lib.hid hf1;clear hnm hsg hS hE hab hy hname hdrop hf1;unfold strV G8 at HNA;go_wp2_with fail
     refine HNA.out.mono ?_;rintro e w7 ⟨rfl,hE7⟩;have hfd:=b0A v l name w7 (HF1.out.ext hE7);have HFD:=Lib.hid hfd;have HE7:=Lib.hid hE7;clear hfd hE7 HNA;unfold strV at HFD;go_wp2_with fail
     refine HFD.out.mono ?_;rintro e w8 ⟨rfl,bv,rfl,hbv⟩;clear HFD;have hseg:D7 G8 ((y:Int)).toNat=name:=by rw[Int.toNat_natCast];exact HNM.out
     cases hlk:D9 l name with
     | none=>
      have hs0:Q9 l ids []=(none,name):=by
       rw[HSG.out,a5Z (by rw[hseg];exact hlk),hseg]
      have hro:=a3v HM.out HRD.out hs0;have hfin:a4u l w1 (.returned (.tuple #[.pointer none,.int .i64 7,.string ⟨name.toArray⟩])) w8:=
       ⟨.pointer none,by rw[hro];rfl,HE5.out.trans (HE.out.trans HE7.out),.inl ⟨by rw[hro],rfl⟩⟩
      have HFIN:=Lib.hid hfin;clear hfin hro hs0 hbv hlk hseg HSG HS;go_wp2;go_ret3
      exact HFIN.out
     | some b=>
      rw[hlk] at hbv;have hbl:=HL.out _ (a0y hlk);have hs1:Q9 l ids []=Q9 l (ids.drop (k+1)) (acc++[b]):=by
       rw[HSG.out,a5Y (by rw[hseg];exact hlk)]
      have hrr:=b3r bv b w8 hbv hbl;have HRR:=Lib.hid hrr;have HS1:=Lib.hid hs1;have HBV:=Lib.hid hbv;have HBL:=Lib.hid hbl;obtain⟨ba,bc,rfl,hbc⟩:∃ba bc,bv=.slice ba b.length bc/\b.length<=bc:=by obtain⟨ba,bc,e,h1,_⟩:=hbv;exact⟨ba,bc,e,h1⟩
      clear hrr hs1 hbv hbl hlk hseg HSG;go_wp2_with fail
      refine HRR.out.mono ?_;rintro e w9 ⟨u,rfl,hrow,hE9⟩;obtain⟨ua,uc,rfl⟩:=ownsRow_form hrow;have hS9:=HS.out.keep (W':=w9) fun q hq=>((HE7.out.trans hE9).block q hq);have hE59:Ext w5 w9:=HE.out.trans (HE7.out.trans hE9);have hz59:=hE59.size;have hz89:w5.heap.size<=w8.heap.size:=(HE.out.trans HE7.out).size;have hrow9:=J8 hrow hz89;have xc9:=(HE7.out.trans hE9).cell xcell;obtain⟨sa,sc,hsv⟩:=ownsRow_form hS9.row;have hrl:rows.length=k:=by rw[hS9.len];exact HAL.out
      rw[hrl] at hsv;subst hsv;have hb1:=hS9.box;have hown:w9.ownsRow w5.heap.size 54 3 (.slice sa k sc) k (rows.flatMap a5W):=by have:=hS9.row;rw[hrl] at this;exact this
      have hod:(w9.drew.alloc (.cells #[.int .i64 y,.slice ua (J9 b).length uc,.int .i64 b.length] 54)).ownsRow w5.heap.size 54 3 (.slice sa k sc) k (rows.flatMap a5W):=World.ownsRow.alloc (w:=w9) hown (.cells #[.int .i64 y,.slice ua (J9 b).length uc,.int .i64 b.length] 54);have m0:=(hb1.cell 1).trans (show _=some (Value.slice sa k sc) from rfl);have mf0:=hb1.free 1;have hbF:o7 (w9.drew.alloc (.cells #[.int .i64 y,.slice ua (J9 b).length uc,.int .i64 b.length] 54)) w5.heap.size 50 #[.int .u64 gen,.slice sa k sc]:=o7.alloc (w:=w9.drew) hb1 _;have hne:(Value.slice sa k sc).ownBlock≠some w5.heap.size:=G5 hown hb1 (by decide);have hlt0:w5.heap.size<w9.heap.size:=hb1.lt;have HS9:=Lib.hid hS9;have HE59:=Lib.hid hE59;have HR9:=Lib.hid hrow9;have HBF:=Lib.hid hbF;have HNE:=Lib.hid hne;have HOW:=Lib.hid hown;have HRL:=Lib.hid hrl;clear hS9 hE59 hrow9 hrow hb1 hbF hne hown hrl xcell hE9 HRR HE7 HE HS HF1;go_wp2_with fail
      go_region_law (refine step_append_lies _ (by rfl) _ _ _ (by rfl) w5.heap.size 54 i0 (.agg #[.int .i64 0,.slice none 0 0,.int .i64 0]) 3 40 Tryz.underlying48 hi0 hz0 hz1 hz2 rfl (by omega) (.slice sa k sc) k _ (by rfl) hod ⟨w9.heap.size,0,none⟩ 1 1 [.int .i64 y,.slice ua (J9 b).length uc,.int .i64 b.length] (by rfl) (by rfl) (World.news_of_block (cs:=#[.int .i64 y,.slice ua (J9 b).length uc,.int .i64 b.length]) (t:=54) (fr:=(0,0)) (heap_alloc_new w9.drew _)) (by simp[Value.oneCell']) (by omega) (by unfold maxLen;omega) (by omega) (by simp;omega) (w9.heap.size+1) (by simp) ?_;intro gg cap6 w6 hown6 hgrow6 hat6 hlt6;have hb6:=HBF.out.grown' hgrow6 HNE.out;have m6:=(hb6.cell 1).trans (show _=some (Value.slice sa k sc) from rfl);have mf6:=hb6.free 1;have HB6:=Lib.hid hb6;have HO6:=Lib.hid hown6;have HG6:=Lib.hid hgrow6;clear hb6 hown6 hgrow6)
      all_goals
       go_wp2;go_roundw
       case rel=>
        have hne6:(Value.slice (some ⟨gg,0,none⟩) (k+1) cap6).ownBlock≠some w5.heap.size:=G5 HO6.out HB6.out (by decide);have hfin:∀q,q<w9.heap.size->(Value.slice sa k sc).ownBlock≠some q->q≠w5.heap.size->(w6.setCell ⟨w5.heap.size,1,none⟩ (.slice (some ⟨gg,0,none⟩) (k+1) cap6)).heap[q]?=w9.heap[q]?:=fun q h1 h2 h3=>
         (Below.heap_setCell _ _ _ _ h3).trans ((HG6.out.block q (by simp;omega) (fun e=>h2 e.symm)).trans (heap_alloc_old w9.drew _ h1))
        have hrk:∀(n:Nat)(vv:Value)(xs:List Value),w9.ownsRow w5.heap.size 116 5 vv n xs->(w6.setCell ⟨w5.heap.size,1,none⟩ (.slice (some ⟨gg,0,none⟩) (k+1) cap6)).ownsRow w5.heap.size 116 5 vv n xs:=fun n vv xs h=>
         Dep.row h _ fun q hq=>hfin q (World.ownsRow.lt h q hq).2 (a2r h HOW.out (by decide) hq) (fun e=>G5 h HS9.out.box (by decide) (e▸hq))
        refine⟨k+1,acc++[b],rows++[((y:Int),.slice ua (J9 b).length uc,b.length)],_,by go_num,by omega,by rw[List.length_append,HAL.out];rfl,fun b' hb'=>?_,HS1.out,⟨by simpa using HB6.out.set 1 _,?_,?_,fun i p hp=>?_⟩,?_⟩
        ·rcases List.mem_append.1 hb' with h|h
         ·exact HAB.out b' h
         ·obtain rfl:b'=b:=by simpa using h
          exact HBL.out
        ·have:=ownsRow_setCell_other (a:=⟨w5.heap.size,1,none⟩) HO6.out hne6 (.slice (some ⟨gg,0,none⟩) (k+1) cap6);rw[List.length_append,HRL.out,List.flatMap_append];simpa [a5W] using this
        ·rw[List.length_append,List.length_append,HRL.out,HAL.out];rfl
        ·by_cases hi:i<k
         ·rw[List.getElem?_append_left (by rw[HRL.out];exact hi)] at hp;obtain⟨s1,s2,s3⟩:=HS9.out.seg i p hp;have e:(acc++[b]).getD i []=acc.getD i []:=by
           rw[List.getD_eq_getElem?_getD,List.getD_eq_getElem?_getD,List.getElem?_append_left (by rw[HAL.out];exact hi)]
          rw[e];exact⟨s1,s2,hrk _ _ _ s3⟩
         ·rw[List.getElem?_append_right (by rw[HRL.out];omega)] at hp;have e0:i - rows.length=0:=by
           rcases Nat.eq_zero_or_pos (i - rows.length) with e|e
           ·exact e
           ·rw[List.getElem?_eq_none (by simp;omega)] at hp;cases hp
          rw[e0] at hp;simp at hp;subst hp;have hik:i=k:=by have:=HRL.out;omega
          subst hik;have e:(acc++[b]).getD i []=b:=by
           rw[List.getD_eq_getElem?_getD,List.getElem?_append_right (by rw[HAL.out];exact Nat.le_refl _),HAL.out];simp
          rw[e];refine⟨?_,rfl,hrk _ _ _ HR9.out⟩;rw[List.getD_eq_getElem?_getD,List.getElem?_eq_getElem hlt,HY.out];rfl
        ·refine Ext.setN ?_ (by simp);exact Below.grown ((Ext.trans HE59.out (Below.drew (Ext.refl w9))).new (.cells #[.int .i64 y,.slice ua (J9 b).length uc,.int .i64 b.length] 54)) HG6.out (by simp;omega) (fun j hj=>(HOW.out.lt j hj).1)
       case measure=>simp[intOf];omega
    ·obtain rfl:k=ids.length:=by omega
     have hst:=hS.new hal (Nat.le_refl _) HE5.out.size;have hsg2:Q9 l ids []=(some acc,[]):=by rw[hsg,List.drop_length];rfl
     have hro:=a5l HM.out HRD.out hsg2;have hfin:a4u l w1 (.returned (.tuple #[.pointer (some ⟨w5.heap.size,0,none⟩),.int .i64 0,.string ⟨#[]⟩])) wr:=by
      refine⟨y8 w5.heap.size,by rw[hro];rfl,HE5.out.trans hE,.inr ⟨gen,ids,acc,w5.heap.size,by rw[hro],HIN.out,fun i=>?_,rfl,HE5.out.size,hst⟩⟩;rw[List.getD_eq_getElem?_getD]
      cases e:acc[i]? with
      | none=>simp
      | some b=>exact hab b (List.mem_of_getElem? e)
     have HFIN:=Lib.hid hfin;clear hfin hst hsg hsg2 hro hS hE hab;go_wp2;go_ret3
     exact HFIN.out
end
section
open Go.RowKit Go.Lib Go.Maps Dk Pl
theorem b3n(p:Nat×Rec):(a3t p).length=5:=rfl
theorem b6d{γ:Type}{f:γ->List Value}{N:Nat}(hf:∀x,(f x).length=N){w:World}{e:TypeId}{v:Value}{l:List γ}(h:a2p w e N v l.length (l.flatMap f)){k:Nat}{t:γ}(hk:l[k]?=some t):
 ∃g cap,v=.slice (some ⟨g,0,none⟩) l.length cap/\l.length<=cap/\cap<=maxLen/\g<w.heap.size/\∀c x,(f t)[c]?=some x->w.cell? ⟨g,k*N+c,none⟩=some x:=by
 have hkl:k<l.length:=(List.getElem?_eq_some_iff.1 hk).1;rcases h.2 with⟨_,h0⟩|⟨g,cap,cur,fr,rfl,hg,h1,h2,h3,h4⟩
 ·omega
 ·refine⟨g,cap,rfl,h1,h2,lt_of_block hg,fun c x hx=>?_⟩;have hc:c<N:=by
   have:=(List.getElem?_eq_some_iff.1 hx).1;rw[hf] at this;exact this
  have e1:=c3K f hf l k t hk c hc;rw[hx] at e1;have hlt:k*N+c<l.length*N:=by
   have:(k+1)*N<=l.length*N:=Nat.mul_le_mul_right _ hkl;rw[Nat.succ_mul] at this;omega
  rw[<-h4,List.getElem?_take,if_pos hlt] at e1;simp only[World.cell?,hg];simpa using e1
theorem a2p.cap{w:World}{e:TypeId}{size:Nat}{v:Value}{n:Nat}{xs:List Value}(h:a2p w e size v n xs):n<=maxLen:=by
 rcases h.2 with⟨_,h0⟩|⟨g,cap,cur,fr,_,_,h1,h2,_⟩
 ·omega
 ·omega
def a5U(segs:List (List (Nat×Rec)))(i k:Nat)(key:Nm)(j m:Nat):Prop:=∀(j' m':Nat)(q:Nat×Rec),(segs.getD j' [])[m']?=some q->(i<j'\/(j'=i/\k<m'))->(j'<j\/(j'=j/\m'<m))->q.2.key≠key
theorem a5U.start(segs:List (List (Nat×Rec)))(i k:Nat)(key:Nm):a5U segs i k key i 0:=fun j' m' q _ h1 h2=>by omega
theorem a5U.seg{segs:List (List (Nat×Rec))}{i k:Nat}{key:Nm}{j:Nat}(h:a5U segs i k key j (segs.getD j []).length):a5U segs i k key (j+1) 0:=by
 intro j' m' q h1 h2 h3;have hm:=(List.getElem?_eq_some_iff.1 h1).1;refine h j' m' q h1 h2 ?_;by_cases e:j'=j
 ·subst e;exact .inr ⟨rfl,hm⟩
 ·omega
end
section
open Go.RowKit Go.Lib Go.Maps Dk Pl
end
section
open Go.RowKit Go.Lib Go.Maps Dk Pl
end
section
open Go.RowKit Go.Lib Go.Maps Dk Pl
open Zn (tp Full WPs)
open To (wpT wpT_lone I4 Iv a6a)
section
theorem b7l{d:D}{M:Nat}(hw:d.Wf)(h:∀x∈d.ids,(d.node x).data.length<=M)(n:Nm):(d.whole n).1.length<=M:=by
 have key:∀(D':D),a2v d D'->∀i k,(D'.readAt n i k).1.length<=M:=by
  intro D' hs i k;unfold D.readAt D.find;split
  ·exact Nat.zero_le _
  ·rename_i o e d1 he;split at he
   ·cases he
   ·cases hl:D9 D'.now n with
    | none=>rw[hl] at he;cases he
    | some x=>
     rw[hl] at he;injection he with h1 h2;injection h1 with h1;injection h2 with h2 h3;subst h1 h3;have hx:x∈d.ids:=by
      have:=a0y hl;rw[hs.now] at this;exact hw.now _ this
     have hf:=D'.fails_same;have hb:((D'.fails.2).node x).data.length<=M:=by rw[hf.node,hs.node];exact h x hx
     refine Nat.le_trans ?_ hb;show(Dk.part _ _ _).length<=_;unfold Dk.part;rw[List.length_take,List.length_drop];omega
 unfold D.whole;obtain⟨⟨k,e,d1⟩,hr⟩:∃r,d.size n=r:=⟨_,rfl⟩;have hs:=d.size_same n;rw[hr] at hs⊢
 cases e with
 | ok=>exact key d1 hs 0 k
 | num n=>exact Nat.zero_le _
 | file n m=>exact Nat.zero_le _
theorem b7m{M:Nat}:∀(ids:List Int){d:D}{acc:List (List UInt8)},d.Wf->(∀x∈d.ids,(d.node x).data.length<=M)->(∀l∈acc,l.length<=M)->∀l∈(D.opensAcc ids d acc).1,l.length<=M:=by
 intro ids
 induction ids with
 | nil=>exact fun _ _ h=>h
 | cons id ids ih=>
  intro d acc hw hd ha;have hl:=b7l hw hd (D7 G8 id.toNat);have hs:=d.whole_same (D7 G8 id.toNat);obtain⟨⟨b,e,d1⟩,hr⟩:∃r,d.whole (D7 G8 id.toNat)=r:=⟨_,rfl⟩;rw[hr] at hl hs;by_cases he:e=.ok
  ·subst he;rw[a3U hr];refine ih ⟨?_,?_,?_,?_,?_⟩ (fun x hx=>?_) fun l h=>?_
   ·intro p hp;have e1:d1.now=d.now:=hs.now;have e2:d1.ids=d.ids:=hs.ids;rw[e2];rw[e1] at hp;exact hw.now p hp
   ·intro p hp;have e1:d1.safe=d.safe:=hs.safe;have e2:d1.ids=d.ids:=hs.ids;rw[e2];rw[e1] at hp;exact hw.safe p hp
   ·intro p hp;have e1:d1.moves=d.moves:=hs.moves;have e2:d1.ids=d.ids:=hs.ids;rw[e2];rw[e1] at hp;exact hw.moves p hp
   ·intro p hp;have e1:d1.node=d.node:=hs.node;have e2:d1.ids=d.ids:=hs.ids;rw[e1];rw[e2] at hp;exact hw.part p hp
   ·have e2:d1.ids=d.ids:=hs.ids;rw[e2];exact hw.ids
   ·have e1:d1.node=d.node:=hs.node;have e2:d1.ids=d.ids:=hs.ids;rw[e1];rw[e2] at hx;exact hd x hx
   ·rcases List.mem_append.1 h with h|h
    ·exact ha l h
    ·obtain rfl:=List.mem_singleton.1 h;exact hl
  ·rw[a1K hr he];exact ha
theorem a2w{w:World}{b c:Nat}{x y:Array Value}{e f:TypeId}{p q:Nat×Nat}(h:w.heap[b]?=some (.cells x e p))(h':w.heap[c]?=some (.cells y f q))(hne:e≠f):b≠c:=by
 rintro rfl;rw[h] at h';injection h' with h';injection h' with h1 h2 h3;exact hne h2
def c6v(fb rb:Nat)(vs:List Value)(b:Nat):Prop:=b=fb\/b=rb\/∃(j:Nat)(u:Value),vs[j]?=some u/\u.ownBlock=some b
theorem Hd.ph{F Sh:Nat->Prop}{a:Nat}{d d2:D}{w w':World}{T:Array Value}{gen:Nat}{ids:List Int}{bss:List (List UInt8)}{mb fb rb sx sb Cb:Nat}{ia:Option Addr}{ic:Nat}{vs:List Value}(h:Hd F a d w T w' gen ids bss mb fb rb sx sb Cb ia ic vs d2)
 (W:WPs zone Sh w')(hSh:∀b,Sh b->b<w.heap.size)(hgl:Tryz.prog.globals.size<=w.heap.size)(hlen:∀l∈bss,l.length<=1099511627776):
 ∃g c2,Ph w' Sh Cb fb rb ids.length ids.length mb sx sb g ids.length c2 ids bss (c6v fb rb vs):=by
 obtain⟨n1,n2,n3,n4,n5,n6⟩:=h.new;have ns:∀b,w.heap.size<=b->¬Sh b:=fun b hb hs=>by have:=hSh b hs;omega
 have hC:=h.hcb;have hmb:w'.heap[mb]?=some (.cells #[.int .u64 gen,.slice ia ids.length ic] 125):=h.hmb;have hfb:w'.heap[fb]?=some (.cells #[.slice (some ⟨rb,0,none⟩) ids.length ids.length] 128):=h.hfb;have hsx:w'.heap[sx]?=some (.cells #[.pointer (some ⟨sb,0,none⟩)] 32):=h.hsx;have hsb:w'.heap[sb]?=some (.cells #[y8 a,.int .u64 gen,.slice ia ids.length ic,.slice (some ⟨Cb,0,none⟩) ids.length ids.length,.map none,.int .i64 0] 138):=h.hsb;have hrb:=h.hrow.row;have hn:=h.idsIn.1;have hvb:∀(j:Nat)(u:Value),vs[j]?=some u->∃b,bss[j]?=some b:=fun j u hu=>by
  have:=(List.getElem?_eq_some_iff.1 hu).1;rw[h.hrow.len] at this;exact⟨_,List.getElem?_eq_getElem this⟩
 have hic:∃g c2,0<ids.length->ids.length<=c2/\g<w'.heap.size/\g≠Cb/\¬Sh g/\(.slice ia ids.length ic:Value)=.slice (some ⟨g,0,none⟩) ids.length c2/\∀i,i<ids.length->w'.cell? ⟨g,i,none⟩=some (.int .i64 (ids.getD i 0)):=by
  rcases h.hids.2 with⟨_,h0⟩|⟨g,cap,cur,he,hg,hb,h1,h2,h3,h4⟩
  ·exact⟨0,0,fun h=>by omega⟩
  ·refine⟨g,cap,fun _=>⟨h1,Bi.lt_of_some hb,a2w hb hC (by decide),ns g hg,he,fun i hi=>?_⟩⟩;have e1:(ids.map (Value.int .i64))[i]?=some (.int .i64 (ids.getD i 0)):=by
    rw[List.getElem?_map,List.getElem?_eq_getElem hi];simp[List.getD,List.getElem?_eq_getElem hi]
   rw[<-h4,List.getElem?_take,if_pos (by omega),Array.getElem?_toList] at e1;simp[World.cell?,hb,e1]
 obtain⟨g,c2,hic⟩:=hic;refine⟨g,c2,W,Nat.le_trans hgl h.chh.size,⟨by omega,Nat.le_refl _,Nat.le_refl _,fun h=>(hic h).1⟩,hfb,.inl rfl,?_,?_,?_,?_,?_,?_,?_⟩
 ·rintro b (rfl|rfl|⟨j,u,hu,hb⟩)
  ·refine⟨by omega,Bi.lt_of_some hfb,a2w hfb hC (by decide),ns _ n2,_,_,_,hfb,fun v hv=>?_⟩;obtain rfl:v=.slice (some ⟨rb,0,none⟩) ids.length ids.length:=by simpa using hv
   exact .slice _ _ _ (.inr (.inl rfl))
  ·refine⟨by omega,Bi.lt_of_some hrb,a2w hrb hC (by decide),ns _ n3,_,_,_,hrb,fun v hv=>?_⟩;replace hv:v∈vs++List.replicate (ids.length - bss.length) (Value.slice none 0 0):=by simpa using hv
   rcases List.mem_append.1 hv with hv|hv
   ·obtain⟨j,hj⟩:=List.getElem?_of_mem hv;obtain⟨l,hl⟩:=hvb j v hj;obtain⟨o1,o2⟩:=h.hrow.at_ j v l hj hl;rcases o1.2 with⟨rfl,_⟩|⟨g',cap,cur,rfl,_⟩
    ·exact .snil _ _
    ·exact .slice _ _ _ (.inr (.inr ⟨j,_,hj,rfl⟩))
   ·rw[List.eq_of_mem_replicate hv];exact .snil _ _
  ·obtain⟨l,hl⟩:=hvb j u hu;obtain⟨o1,o2⟩:=h.hrow.at_ j u l hu hl;rcases o1.2 with⟨rfl,_⟩|⟨g',cap,cur,rfl,hg,hcells,_⟩
   ·cases hb
   ·obtain rfl:g'=b:=by simpa [Value.ownBlock] using hb
    refine⟨by omega,Bi.lt_of_some hcells,a2w hcells hC (by decide),ns _ hg,_,_,_,hcells,fun v hv=>?_⟩;obtain⟨k,rfl⟩:=o2 _ _ _ _ rfl hcells v hv;exact .int _ _
 ·intro i hi;have hb:i<bss.length:=by rw[h.hbss];exact hi
  have hv:i<vs.length:=by rw[h.hrow.len];exact hb
  obtain⟨o1,-⟩:=h.hrow.at_ i vs[i] bss[i] (List.getElem?_eq_getElem hv) (List.getElem?_eq_getElem hb);refine⟨vs[i],?_,?_,?_⟩
  ·simp[World.cell?,hrb,List.getElem?_append_left hv,hv]
  ·simpa [List.getD,List.getElem?_eq_getElem hb] using o1.bytes
  ·simpa [List.getD,List.getElem?_eq_getElem hb] using hlen _ (List.getElem_mem hb)
 ·refine⟨Bi.lt_of_some hmb,a2w hmb hC (by decide),ns _ n1,fun h0=>?_⟩;rw[<-(hic h0).2.2.2.2.1];simp[World.cell?,hmb]
 ·exact⟨Bi.lt_of_some hsx,a2w hsx hC (by decide),ns _ n4,by simp[World.cell?,hsx]⟩
 ·exact⟨Bi.lt_of_some hsb,a2w hsb hC (by decide),ns _ n5,by simp[World.cell?,hsb]⟩
 ·exact fun h0=>let ⟨_,a2,a3,a4,_,a6⟩:=hic h0;⟨a2,a3,a4,a6⟩
 ·refine⟨ns _ n6,_,hC,?_⟩;simp[madeCells];omega
end
end
section
open Go.RowKit Go.Lib Go.Maps Dk Pl
open Go.Conc Go.Mw
open Zn (tp Full WPs VP Zf Le)
open To (wpT wpT_lone I4 Iv a6a To at_)
structure Jn(w:World)(Sh:Nat->Prop)(Cb n:Nat)(ids:List Int)(bss:List (List UInt8))(T:Array Value)(T':Array Value)(w':World)(Sh':Nat->Prop):Prop where
 hs:T'.size=118
 t11:T'[11]?=T[11]?
 t12:T'[12]?=some (.pointer (some ⟨w.heap.size,0,none⟩))
 al:∃v:Int,w'.heap[w.heap.size]?=some (.cells #[.int .i64 v] 143)
 segs:a2G w' Cb n ids bss
 segsNew:∀i u g,i<n->w'.cell? ⟨Cb,2*i+1,none⟩=some u->u.ownBlock=some g->w.heap.size<=g
 old:∀e,e<w.heap.size->e≠Cb->w'.heap[e]?=w.heap[e]?
 size:w.heap.size<=w'.heap.size
 os:w'.os=w.os
 output:w'.output=w.output
 shUp:∀b,Sh b->Sh' b
 shOld:∀b,b<w.heap.size->Sh' b->Sh b
def ShJ(w w':World)(Sh:Nat->Prop)(n:Nat)(O:Nat->Nat->Prop)(bx:Nat->Nat)(b:Nat):Prop:=Sh b\/(w.heap.size+1<=b/\b<w'.heap.size/\¬∃i,i<n/\(O i b\/b=bx i))
theorem b9Y{w w':World}{Sh:Nat->Prop}{Cb n:Nat}{ids:List Int}{bss:List (List UInt8)}{O:Nat->Nat->Prop}{bx:Nat->Nat}(W:WPs zone Sh w)(hC:¬Sh Cb)(hCl:Cb<w.heap.size)
 (hel:∀e,e<w.heap.size->e≠Cb->w'.heap[e]?=w.heap[e]?)(hR:∀i,i<n->a5A w Sh Cb ids bss i (bx i) (O i) w')(hO:∀i b,O i b->w.heap.size+2<=b/\b<w'.heap.size)
 (hal:∃v:Int,w'.heap[w.heap.size]?=some (.cells #[.int .i64 v] 143))(hcb:∃cs:Array Value,w'.heap[Cb]?=some (.cells cs 154)/\cs.size=2*n)(hsz:w.heap.size+2<=w'.heap.size):WPs zone (ShJ w w' Sh n O bx) w':=by
 have old:∀b,b<w.heap.size->ShJ w w' Sh n O bx b->Sh b:=fun b hb h=>h.elim id fun h=>by omega
 have hle:Le (Zf zone Sh w.heap.size) (Zf zone (ShJ w w' Sh n O bx) w'.heap.size):=⟨rfl,rfl,rfl,fun b h=>⟨Nat.lt_of_lt_of_le h.1 (by omega),fun hs=>h.2 (old b h.1 hs)⟩⟩;have own:∀i b,i<n->(O i b\/b=bx i)->b<w'.heap.size/\¬ShJ w w' Sh n O bx b:=fun i b hi h=>by
  have hb:w.heap.size+2<=b/\b<w'.heap.size:=h.elim (hO i b) fun e=>by
   obtain⟨-,-,-,h4,h5⟩:=hR i hi;rw[e];exact⟨h4,Bi.lt_of_some h5⟩
  refine⟨hb.2,?_⟩;rintro(hs|⟨-,-,h3⟩)
  ·have:=W.sh b hs;omega
  ·exact h3 ⟨i,hi,h⟩
 refine⟨fun b o hb hs ho=>?_,fun b h=>?_,fun b h=>?_⟩
 ·by_cases hbl:b<w.heap.size
  ·by_cases hbC:b=Cb
   ·subst hbC;obtain⟨cs,h1,h2⟩:=hcb;rw[h1] at ho;injection ho with ho;subst ho;refine .cells _ _ _ fun v hv=>?_;obtain⟨k,hk,rfl⟩:=Array.mem_iff_getElem.1 hv;have hi:k/2<n:=by omega
    obtain⟨r1,⟨u,r2,r3,r4⟩,-⟩:=hR (k/2) hi;have hcell:w'.cell? ⟨b,k,none⟩=some cs[k]:=by simp[World.cell?,h1,hk]
    rcases Nat.mod_two_eq_zero_or_one k with hm|hm
    ·have e:2*(k/2)=k:=by omega
     rw[e,hcell] at r1;injection r1 with r1;rw[r1];exact .int _ _
    ·have e:2*(k/2)+1=k:=by omega
     rw[e,hcell] at r2;injection r2 with r2;rw[r2];rcases r3.2 with⟨rfl,_⟩|⟨g,cap,cur,fr,rfl,_⟩
     ·exact .snil _ _
     ·exact .slice _ _ _ (own _ g hi (.inl (r4 g rfl)))
   ·rw[hel b hbl hbC] at ho;exact(W.obj b o hbl (fun h=>hs (.inl h)) ho).mono hle
  ·by_cases hb0:b=w.heap.size
   ·subst hb0;obtain⟨v,h1⟩:=hal;rw[h1] at ho;injection ho with ho;subst ho;refine .cells _ _ _ fun x hx=>?_;obtain rfl:x=.int .i64 v:=by simpa using hx
    exact .int _ _
   ·have hex:∃i,i<n/\(O i b\/b=bx i):=Classical.byContradiction fun h=>hs (.inr ⟨by omega,hb,h⟩);obtain⟨i,hi,h⟩:=hex;obtain⟨-,-,r3,-,r5⟩:=hR i hi;rcases h with h|rfl
    ·obtain⟨o',h1,h2⟩:=r3 b h;rw[h1] at ho;injection ho with ho;subst ho;have hle2:Le {zone with D:=fun c=>(c<w.heap.size/\c≠Cb/\¬Sh c)\/c=bx i\/O i c} (Zf zone (ShJ w w' Sh n O bx) w'.heap.size):=by
      refine⟨rfl,rfl,rfl,fun c hc=>?_⟩;rcases hc with⟨c1,c2,c3⟩|h
      ·exact⟨by omega,fun hs=>c3 (old c c1 hs)⟩
      ·exact own i c hi h.symm
     exact Zn.ObjP.mono hle2 h2
    ·rw[r5] at ho;injection ho with ho;subst ho;refine .cells _ _ _ fun x hx=>?_;obtain rfl:x=.int .i64 i:=by simpa using hx
     exact .int _ _
 ·rcases h with h|h
  ·have:=W.sh b h;omega
  ·exact h.2.1
 ·obtain⟨h1,h2⟩:=W.base b h;exact⟨by omega,fun hs=>h2 (old b h1 hs)⟩
theorem c5X{k:Nat}(h:fX k=true)(h2:k≠12):kb k=true:=by
 cases h3:kb k with
 | true=>rfl
 | false=>
  unfold kb at h3;simp at h3;exfalso;have h3:k=12\/k=13\/k=14\/k=70\/k=71\/k=72\/k=73\/k=74\/k=75\/k=76\/k=77\/k=78:=by omega
  rcases h3 with rfl|rfl|rfl|rfl|rfl|rfl|rfl|rfl|rfl|rfl|rfl|rfl;all_goals first|exact h2 rfl|(revert h;decide)
variable[Go.ConcR.Payload][To.Lo]
theorem b7n{Sh:Nat->Prop}{Q:Exit->Act->World->(Nat->Prop)->Prop}{w:World}{Cb fb rb n fc mb sx sb ic c1 c2:Nat}{ids:List Int}{bss:List (List UInt8)}{DB:Nat->Prop}{T:Array Value}(h:Ph w Sh Cb fb rb n fc mb sx sb ic c1 c2 ids bss DB)(hI:Iv zone Sh Full ⟨T,[]⟩ w)
 (hT:T.size=118)(h4:T[4]?=some (.pointer (some ⟨mb,0,none⟩)))(h6:T[6]?=some (.pointer (some ⟨fb,0,none⟩)))(h11:T[11]?=some (.pointer (some ⟨sx,0,none⟩)))
 (hnext:∀T' w' Sh',Jn w Sh Cb n ids bss T T' w' Sh'->Iv zone Sh' (fun k=>fX k=true) ⟨T',[]⟩ w'->wpT Tryz.prog 14 (H8 10) Q ⟨T',[]⟩ w' Sh'):wpT Tryz.prog 14 (H8 6) Q ⟨T,[]⟩ w Sh:=by
 intro b K cs Ψ hb hk hc;obtain⟨hCS,cs0,hC0,hCs⟩:=h.hcb;have hCl:Cb<w.heap.size:=Bi.lt_of_some hC0;obtain⟨df1,df2,df3,df4,-⟩:=h.hDB fb h.DBfb;have eb:∀(a:Act)(k:List Item),b.at a k=(base 14).at a k:=fun a k=>by
  unfold Frame.at;rw[hb,hk];rfl
 rw[eb];refine b4G (Res:=a5A w Sh Cb ids bss) h.W.sh h.fbh df4 ⟨cs0,hC0,hCs⟩ hCS df3 h.hn.1 b0H hT h4 h6 h11 (fun c i b w' a1 a2 a3 a4 a5 a6 a7 a8=>b7x (fun b hb=>hb.2) h a1 a2 a3 a4 a5 a6 a7 a8) ?_;intro w' T' O bx hl hel hR hO hd hal hcb hsz hos hou;have hW:=b9Y h.W hCS hCl hel hR hO hal hcb hsz;have old:∀b,b<w.heap.size->ShJ w w' Sh n O bx b->Sh b:=fun b hb h=>h.elim id fun h=>by omega
 have hAl:¬ShJ w w' Sh n O bx w.heap.size:=fun h=>h.elim (fun h'=>by have:=hI.W.sh _ h';omega) fun h=>by omega
 refine⟨ShJ w w' Sh n O bx,fun b h=>.inl h,.inr ⟨Nat.le_refl _,by omega,?_⟩,?_⟩
 ·rintro⟨i,hi,h|h⟩
  ·have:=hO i _ h;omega
  ·have:=(hR i hi).2.2.2.1;omega
 ·unfold joined;refine To.move rfl (fun _=>stepG_region_end) ?_;have eT:Act.put ⟨T',[]⟩ (some 78) (.tuple #[])=⟨T'.setIfInBounds 78 (.tuple #[]),[]⟩:=rfl;rw[eT,<-eb];have g:∀k,k≠78->(T'.setIfInBounds 78 (.tuple #[]))[k]?=T'[k]?:=fun k hk=>Array.getElem?_setIfInBounds_ne (Ne.symm hk);refine hnext _ w' (ShJ w w' Sh n O bx) ⟨by simp[hl.size],?_,?_,hal,?_,?_,hel,by omega,hos,hou,fun b h=>.inl h,old⟩ ⟨fun t ht=>?_,fun d hd=>(by cases hd),hW⟩ b K cs Ψ hb hk hc
  ·exact(g 11 (by decide)).trans (hl.keep 11 (by decide))
  ·exact(g 12 (by decide)).trans hl.t12
  ·intro i hi;obtain⟨r1,⟨u,r2,r3,-⟩,-⟩:=hR i hi;exact⟨r1,u,r2,r3⟩
  ·intro i u g hi hu hg;obtain⟨-,⟨u',r2,-,r4⟩,-⟩:=hR i hi;rw[hu] at r2;injection r2 with r2;subst r2;have:=hO i g (r4 g hg);omega
  ·show VP _ ((T'.setIfInBounds 78 (.tuple #[])).getD t undef);have h78:t≠78:=by rintro rfl;revert ht;decide
   rw[Array.getD_eq_getD_getElem?,g t h78];by_cases h12:t=12
   ·subst h12;rw[hl.t12];exact .ptr _ ⟨by show w.heap.size<_;omega,hAl⟩
   ·rw[hl.keep t (c5X ht h12),<-Array.getD_eq_getD_getElem?];have hle:Le (Zf zone Sh w.heap.size) (Zf zone (ShJ w w' Sh n O bx) w'.heap.size):=⟨rfl,rfl,rfl,fun b h=>⟨Nat.lt_of_lt_of_le h.1 (by omega),fun hs=>h.2 (old b h.1 hs)⟩⟩;exact(hI.tmps t trivial).mono hle
end
section
open Go.RowKit Go.Lib Go.Maps Dk Pl
open Go.Conc Go.Mw
open Zn (tp Full WPs VP Zf Le)
open To (wpT wpT_lone I4 Iv a6a To at_ a6b bodyT)
def a8j(W:World)(sb a:Nat)(gen:Nat)(ids:List Int)(bss:List (List UInt8)):Prop:=
 ∃(ia:Option Addr)(ic Cb r:Nat)(v:Int),o7 W sb 138 #[y8 a,.int .u64 gen,.slice ia ids.length ic,.slice (some ⟨Cb,0,none⟩) ids.length ids.length,.map (some r),.int .i64 v]/\Ints W (.slice ia ids.length ic) ids/\a2G W Cb ids.length ids bss/\a2c W r (Z5 bss ids.length)/\bss.length=ids.length
theorem a2G.frame{w w':World}{Cb n:Nat}{ids:List Int}{bss:List (List UInt8)}(h:a2G w Cb n ids bss)(hC:w'.heap[Cb]?=w.heap[Cb]?)(hk:∀i u g,i<n->w.cell? ⟨Cb,2*i+1,none⟩=some u->u.ownBlock=some g->w'.heap[g]?=w.heap[g]?):a2G w' Cb n ids bss:=by
 intro i hi;obtain⟨h1,u,h2,h3⟩:=h i hi;exact⟨(World.cell?_of_block hC).trans h1,u,(World.cell?_of_block hC).trans h2,h3.keep fun g hg=>hk i u g hi h2 hg⟩
theorem a2G.ty{w:World}{Cb n:Nat}{ids:List Int}{bss:List (List UInt8)}(h:a2G w Cb n ids bss){i g:Nat}{u:Value}(hi:i<n)(hu:w.cell? ⟨Cb,2*i+1,none⟩=some u)(hg:u.ownBlock=some g):∃cur fr,w.heap[g]?=some (.cells cur 160 fr):=by
 obtain⟨-,u',h2,h3⟩:=h i hi;rw[hu] at h2;injection h2 with h2;subst h2;rcases h3.2 with⟨rfl,_⟩|⟨g',cap,cur,fr,rfl,h4,_⟩
 ·cases hg
 ·obtain rfl:g'=g:=by simpa [Value.ownBlock] using hg
  exact⟨_,_,h4⟩
structure b50(F Sh:Nat->Prop)(a:Nat)(d:D)(w:World)(v:Value)(w':World)(Sh':Nat->Prop):Prop where
 W:WPs zone Sh' w'
 up:∀b,Sh b->Sh' b
 old:∀b,b<w.heap.size->Sh' b->Sh b
 vp:VP (Zf zone Sh' w'.heap.size) v
 chh:Chh F w w'
 disk:y9 w' F a d.kopen.2.2
 res:(d.kopen.1=none/\d.kopen.2.1≠.ok/\∃y,v=.tuple #[.pointer none,y]/\Held w' F (fun W=>ErrAt W y d.kopen.2.1)) ∨
  (∃sb gen ids bss,d.kopen.1=some (gen,ids,bss)/\d.kopen.2.1=.ok/\a4j ids/\v=.tuple #[.pointer (some ⟨sb,0,none⟩),.nilIface]/\Held w' F (fun W=>a8j W sb a gen ids bss))
section
theorem b7o[To.Lo]{F Sh:Nat->Prop}{a:Nat}{d d2:D}{w w1:World}{T:Array Value}{gen:Nat}{ids:List Int}{bss:List (List UInt8)}{mb fb rb sx sb Cb:Nat}{ia:Option Addr}{ic:Nat}{vs:List Value}(h:Hd F a d w T w1 gen ids bss mb fb rb sx sb Cb ia ic vs d2)(hF:∀b,F b->b<w.heap.size)(hSh:∀b,Sh b->b<w.heap.size)
 {T':Array Value}{w2:World}{Sh':Nat->Prop}(hJ:Jn w1 Sh Cb ids.length ids bss T T' w2 Sh')(hI:Iv zone Sh' (fun k=>fX k=true) ⟨T',[]⟩ w2):wpT Tryz.prog 14 (H8 10) (bodyT Tryz.prog Tryz.f14 (b50 F Sh a d w)) ⟨T',[]⟩ w2 Sh':=by
 obtain⟨n1,n2,n3,n4,n5,n6⟩:=h.new;have hC1:=h.hcb;have hmem:∀{c:Code},c∈W9->Zn.CodeP zone c:=b0E;have huse:∀{c:Code},c∈[N9 10,N9 11,N9 12,H8 13]->Zn.CodeU (fun k=>fX k=true) c:=b9X;have hsx1:w1.heap[sx]?=some (.cells #[.pointer (some ⟨sb,0,none⟩)] 32):=h.hsx;have hsb1:w1.heap[sb]?=some (.cells #[y8 a,.int .u64 gen,.slice ia ids.length ic,.slice (some ⟨Cb,0,none⟩) ids.length ids.length,.map none,.int .i64 0] 138):=h.hsb;have sxC:=a2w hsx1 hC1 (by decide);have sbC:=a2w hsb1 hC1 (by decide);have sxb:=a2w hsx1 hsb1 (by decide);have hsx2:o7 w2 sx 32 #[.pointer (some ⟨sb,0,none⟩)]:=(hJ.old sx (Bi.lt_of_some hsx1) sxC).trans hsx1;have hsb2:o7 w2 sb 138 #[y8 a,.int .u64 gen,.slice ia ids.length ic,.slice (some ⟨Cb,0,none⟩) ids.length ids.length,.map none,.int .i64 0]:=(hJ.old sb (Bi.lt_of_some hsb1) sbC).trans hsb1;have hD2:y9 w2 F a d2:=h.disk.frame (fun b hb=>hJ.old b (Nat.lt_of_lt_of_le (hF b hb) h.chh.size) fun e=>by have:=hF b hb;omega) hJ.size;have hiC:∀b,(Value.slice ia ids.length ic).ownBlock=some b->w.heap.size<=b/\b<w1.heap.size/\b≠Cb/\b≠sb:=fun b hb=>by
  rcases h.hids.2 with⟨e,_⟩|⟨g,cap,cur,e,hg,hc,_⟩
  ·rw[e] at hb;cases hb
  ·rw[e] at hb;obtain rfl:g=b:=by simpa [Value.ownBlock] using hb
   exact⟨hg,Bi.lt_of_some hc,a2w hc hC1 (by decide),a2w hc hsb1 (by decide)⟩
 have hids2:OwnI w2 w.heap.size (.slice ia ids.length ic) ids:=Dep.row h.hids w2 fun b hb=>hJ.old b (hiC b hb).2.1 (hiC b hb).2.2.1;obtain⟨vc,hal⟩:=hJ.al;have g11:T'[11]?=some (.pointer (some ⟨sx,0,none⟩)):=hJ.t11.trans h.t11;have c2:Chh F w w2:=⟨hJ.os.trans h.chh.os,hJ.output.trans h.chh.output,Nat.le_trans h.chh.size hJ.size,fun b hb hn=>(hJ.old b (Nat.lt_of_lt_of_le hb h.chh.size) (by omega)).trans (h.chh.block b hb hn)⟩;rw[b4k];refine I4 (piece (fun w=>QO6 sx sb (y8 a) (.int .u64 gen) (.slice ia ids.length ic) (.slice (some ⟨Cb,0,none⟩) ids.length ids.length) (.map none) vc w1.heap.size w) hI (hmem (by simp[W9])) (huse (by simp)) (fun τ p=>t10 T' hJ.hs g11 hJ.t12 _ _ _ _ _ _ vc 143 _ hsx2 hsb2 hal) ?_);rintro e ⟨T3,ds3⟩ w3 τ p τ' p' q;cases e<;>first|exact q.elim|skip
 obtain⟨q1,q2,q3,q4,q5⟩:=q;dsimp only at q1 q2 q3;subst q1;have c3:Chh (fun b=>b=sb) w2 w3:=⟨q5.os,q5.output,Nat.le_of_eq q5.size.symm,fun b _ hb=>q5.block b hb⟩;replace q4:o7 w3 sb 138 #[y8 a,.int .u64 gen,.slice ia ids.length ic,.slice (some ⟨Cb,0,none⟩) ids.length ids.length,.map none,.int .i64 vc]:=q4;clear q5;refine⟨.inl rfl,fun hI3 _=>?_⟩;have hsx3:=c3.box hsx2 sxb;show wpT _ _ _ _ _ _ _;rw[b4l];refine I4 (piece (fun w=>QO7 sx sb (y8 a) (.int .u64 gen) (.slice ia ids.length ic) (.slice (some ⟨Cb,0,none⟩) ids.length ids.length) vc w) hI3 (hmem (by simp[W9])) (huse (by simp)) (fun τ p=>t11 T3 q2 q3 _ _ _ _ _ vc _ hsx3 q4) ?_);rintro e ⟨T4,ds4⟩ w4 τ p τ' p' q;cases e<;>first|exact q.elim|skip
 obtain⟨r1,r2,r3,r4,r,r5,r6,r7⟩:=q;dsimp only at r1 r2 r3;subst r1;have c4:Chh (fun b=>b=sb) w3 w4:=.of r4;replace r5:w3.heap.size<=r:=r5;replace r6:o7 w4 sb 138 #[y8 a,.int .u64 gen,.slice ia ids.length ic,.slice (some ⟨Cb,0,none⟩) ids.length ids.length,.map (some r),.int .i64 vc]:=r6;replace r7:a2c w4 r []:=r7;clear r4;refine⟨.inl rfl,fun hI4 _=>?_⟩;have hsx4:=c4.box hsx3 sxb;have c24:Chh (fun b=>b=sb) w2 w4:=c3.trans c4;have hCl2:Cb<w2.heap.size:=Nat.lt_of_lt_of_le (Bi.lt_of_some hC1) hJ.size;have hS4:a2G w4 Cb ids.length ids bss:=hJ.segs.frame (c24.block Cb hCl2 (Ne.symm sbC)) fun i u g hi hu hg=>by
  obtain⟨cur,fr,hc⟩:=hJ.segs.ty hi hu hg;exact c24.block g (Bi.lt_of_some hc) (a2w hc (show w2.heap[sb]?=some (.cells _ 138) from hsb2) (by decide))
 have s1:w1.heap.size<=r:=Nat.le_trans hJ.size (Nat.le_trans c3.size r5);have hrne:r≠sx/\r≠sb:=by
  have:=Bi.lt_of_some hsx1;have:=Bi.lt_of_some hsb1;omega
 show wpT _ _ _ _ _ _ _;rw[b4m];refine I4 (piece (fun w=>QO8 sx r bss ids.length w) hI4 (hmem (by simp[W9])) (huse (by simp)) (fun τ p=>t12 T4 r2 r3 _ _ _ _ ids bss _ hsx4 r6 ⟨Nat.le_refl _,by have:=h.idsIn.1;omega⟩ hS4 r7 hrne) ?_);rintro e ⟨T5,ds5⟩ w5 τ p τ' p' q;cases e<;>first|exact q.elim|skip
 obtain⟨u1,u2,u3,u4,u5⟩:=q;dsimp only at u1 u2 u3;subst u1;have c5:Chh (fun b=>b=r) w4 w5:=.of u4;replace u5:a2c w5 r (Z5 bss ids.length):=u5;clear u4;refine⟨.inl rfl,fun hI5 _=>?_⟩;have hsx5:=c5.box hsx4 (Ne.symm hrne.1);have hsb5:=c5.box r6 (Ne.symm hrne.2);refine piece (fun w=>QO9 sb w) hI5 (hmem (by simp[W9])) (huse (by simp)) (fun τ p=>t13 T5 u2 u3 _ hsx5) ?_;rintro e a6 w6 τ p τ' p' q;cases e<;>first|exact q.elim|skip
 obtain⟨v1,v2,v3,v4⟩:=q;have c6:Chh (fun _=>False) w5 w6:=.eq v4;refine⟨.inr rfl,fun hI6 _=>⟨v1,_,resultsC_tmp2 rfl a6.tmps,?_⟩⟩;rw[L6 v2,L6 v3];have z26:w2.heap.size<=w6.heap.size:=Nat.le_trans c24.size (Nat.le_trans c5.size c6.size);have z2r:w2.heap.size<=r:=Nat.le_trans c3.size r5;have k26:∀b,b<w2.heap.size->b≠sb->w6.heap[b]?=w2.heap[b]?:=fun b hb hn=>
  (c6.block b (Nat.lt_of_lt_of_le hb (Nat.le_trans c24.size c5.size)) fun h=>h).trans ((c5.block b (Nat.lt_of_lt_of_le hb c24.size) (by omega)).trans (c24.block b hb hn))
 have z12:=hJ.size;have z01:=h.chh.size;have hsb6:=c6.box hsb5 fun h=>h;have hM6:a2c w6 r (Z5 bss ids.length):=u5.block (c6.block r (by obtain⟨es,c,h1,-⟩:=u5;exact Bi.lt_of_some h1) fun h=>h);have hids6:OwnI w6 w.heap.size (.slice ia ids.length ic) ids:=Dep.row hids2 w6 fun b hb=>k26 b (by have:=hiC b hb;omega) (hiC b hb).2.2.2;have cellC:∀k,w6.cell? ⟨Cb,k,none⟩=w2.cell? ⟨Cb,k,none⟩:=fun k=>World.cell?_of_block (k26 Cb hCl2 (Ne.symm sbC));have gk:∀i u g,i<ids.length->w2.cell? ⟨Cb,2*i+1,none⟩=some u->u.ownBlock=some g->w.heap.size<=g/\g<w2.heap.size/\g≠sb:=fun i u g hi hu hg=>by
  obtain⟨cur,fr,hc⟩:=hJ.segs.ty hi hu hg;exact⟨Nat.le_trans z01 (hJ.segsNew i u g hi hu hg),Bi.lt_of_some hc,a2w hc (show w2.heap[sb]?=some (.cells _ 138) from hsb2) (by decide)⟩
 have hS6:a2G w6 Cb ids.length ids bss:=hJ.segs.frame (k26 Cb hCl2 (Ne.symm sbC)) fun i u g hi hu hg=>k26 g (gk i u g hi hu hg).2.1 (gk i u g hi hu hg).2.2;have hsbl:sb<w1.heap.size:=Bi.lt_of_some hsb1;have hrl:r<w6.heap.size:=by obtain⟨es,c,h1,-⟩:=hM6;exact Bi.lt_of_some h1
 exact{
  W:=hI6.W
  up:=hJ.shUp
  old:=fun b hb hs=>hJ.shOld b (Nat.lt_of_lt_of_le hb z01) hs
  vp:=by
   refine .tuple _ fun x hx=>?_;rcases(by simpa using hx:x=.pointer (some ⟨sb,0,none⟩)\/x=.nilIface) with rfl|rfl
   ·exact .ptr _ ⟨by show sb<_;omega,fun hs=>by have:=hSh sb (hJ.shOld sb hsbl hs);omega⟩
   ·exact .nilIface
  chh:=by
   refine⟨c6.os.trans (c5.os.trans (c24.os.trans c2.os)),c6.output.trans (c5.output.trans (c24.output.trans c2.output)),by omega,fun b hb hn=>(k26 b (by omega) (by omega)).trans (c2.block b hb hn)⟩
  disk:=by rw[h.ko];exact hD2.frame (fun b hb=>k26 b (by have:=hF b hb;omega) (by have:=hF b hb;omega)) z26
  res:=by
   refine .inr ⟨sb,gen,ids,bss,by rw[h.ko],by rw[h.ko],h.idsIn,rfl,fun b=>w.heap.size<=b/\b<w6.heap.size,fun b hb=>⟨hb.2,fun hf=>by have:=hF b hf;omega⟩,fun w'' hw=>?_⟩;have hkb:∀b,w.heap.size<=b->b<w6.heap.size->w''.heap[b]?=w6.heap[b]?:=fun b h1 h2=>hw b ⟨h1,h2⟩;refine⟨ia,ic,Cb,r,vc,(hkb sb n5 (by omega)).trans hsb6,OwnI.ints (B:=w.heap.size) (Dep.row hids6 w'' fun b hb=>hkb b (hiC b hb).1 (by have:=hiC b hb;omega)),?_,hM6.block (hkb r (by omega) hrl),h.hbss⟩;exact hS6.frame (hkb Cb n6 (by omega)) fun i u g hi hu hg=>by
    rw[cellC] at hu;have:=gk i u g hi hu hg;exact hkb g this.1 (by omega)}
theorem b7p[Go.ConcR.Payload][To.Lo]{F Sh:Nat->Prop}{a:Nat}{d:D}{w:World}(W:WPs zone Sh w)(hgl:Tryz.prog.globals.size<=w.heap.size)(hv:VP (Zf zone Sh w.heap.size) (y8 a))(hD:y9 w F a d)(hds:∀x∈d.ids,(d.node x).data.length<=1099511627776)(hl:Held w F a0F):
 a6b Tryz.prog 14 #[y8 a] w Sh (b50 F Sh a d w):=by
 refine⟨Tryz.f14,H8 0,Tryz.func14,by kernel_rfl,by kernel_rfl,?_⟩;have en:Tryz.f14.ntmps=118:=by kernel_rfl
 rw[en];have eT:(#[y8 a]:Array Value).size=1:=rfl;rw[eT];have hI:Iv zone Sh Full ⟨#[y8 a]++Array.replicate (118 - 1) undef,[]⟩ w:=by
  refine⟨fun t _=>?_,fun d hd=>(by cases hd),W⟩;show VP _ ((#[y8 a]++Array.replicate (118 - 1) undef).getD t undef);rw[Array.getD_eq_getD_getElem?,Array.getElem?_append];split
  ·rename_i h;obtain rfl:t=0:=by simpa using h
   exact hv
  ·rw[Array.getElem?_replicate];split
   ·exact Zn.vp_undef
   ·exact Zn.vp_undef
 refine b7k (F:=F) (d:=d) hI (by simp) (by simp) hD (fun x hx=>Nat.le_trans (hds x hx) (by decide)) hl ?_ ?_
 ·intro a' w' y hE hI';refine⟨hE.defers,_,resultsC_tmp2 rfl a'.tmps,?_⟩;rw[L6 hE.t2,L6 hE.t3];have hy:=hI'.tmps 3 trivial;rw[L6 hE.t3] at hy;exact⟨hI'.W,fun _ h=>h,fun _ _ h=>h,.tuple _ fun x hx=>by
   rcases(by simpa using hx:x=.pointer none\/x=y) with rfl|rfl
   ·exact .pnil
   ·exact hy,hE.chh,hE.disk,.inl ⟨hE.ko.1,hE.ko.2,y,rfl,hE.err⟩⟩
 ·intro T w' gen ids bss mb fb rb sx sb Cb ia ic vs d2 h hI';have hlen:∀l∈bss,l.length<=1099511627776:=by
   have hk:=h.ko;have hm:=D.readMan_same d
   cases hr:d.readMan.1 with
   | none=>rw[a1g hr] at hk;cases hk
   | some r=>
    obtain⟨g,l⟩:=r;have hwf:d.readMan.2.2.Wf:=by
     have hw:=hD.wf;exact⟨by rw[hm.now,hm.ids];exact hw.now,by rw[hm.safe,hm.ids];exact hw.safe,by rw[hm.moves,hm.ids];exact hw.moves,by rw[hm.node,hm.ids];exact hw.part,by rw[hm.ids];exact hw.ids⟩
    cases he:(D.opensAcc l d.readMan.2.2 []).2.1 with
    | ok=>
     rw[a8K hr he] at hk;injection hk with h1 h2;injection h1 with h1;injection h1 with h1 h3;injection h3 with h3 h4;rw[<-h4]
     exact b7m l hwf (by rw[hm.ids,hm.node];exact hds) fun l hl=>by cases hl
    | num n=>rw[a1U hr (by rw[he];exact fun h=>by cases h)] at hk;cases hk
    | file n m=>rw[a1U hr (by rw[he];exact fun h=>by cases h)] at hk;cases hk
  obtain⟨g,c2,hp⟩:=h.ph hI'.W W.sh hgl hlen;exact b7n hp hI' h.hs h.t4 h.t6 h.t11 fun T' w2 Sh' hJ hI2=>b7o h hD.low W.sh hJ hI2
end
end
section
open Go.RowKit Go.Lib Go.Maps Dk Pl
theorem b9s{d:D}(hw:d.Wf){c:Nat}(hds:∀x∈d.ids,(d.node x).data.length<=c):∀p∈d.files,p.2.length<=c:=by
 intro p hp;unfold D.files at hp;obtain⟨n,hn,rfl⟩:=List.mem_map.1 hp;obtain⟨b,hb⟩:=a8G d n hn;rw[hb];exact b5U hw hds hb
structure Kp(ch:Nat->Bool)(T T':Array Value):Prop where
 size:T'.size=T.size
 keep:∀k,ch k=false->T'[k]?=T[k]?
theorem Kp.refl(ch:Nat->Bool)(T:Array Value):Kp ch T T:=⟨rfl,fun _ _=>rfl⟩
theorem Kp.set{ch:Nat->Bool}{T T':Array Value}(h:Kp ch T T'){i:Nat}{v:Value}(hi:ch i=true):Kp ch T (T'.setIfInBounds i v):=
 ⟨by rw[Array.size_setIfInBounds,h.size],fun k hk=>by
  have:i≠k:=by rintro rfl;rw[hi] at hk;cases hk
  rw[Array.getElem?_setIfInBounds_ne this];exact h.keep k hk⟩
theorem slot{T:Array Value}{i:Nat}{v:Value}(h:T[i]?=some v):∃h:i<T.size,T[i]=v:=Array.getElem?_eq_some_iff.1 h
theorem a1e{T:Array Value}{i:Nat}{v:Value}(h:i<T.size):(T.setIfInBounds i v)[i]?=some v:=Array.getElem?_setIfInBounds_self_of_lt h
theorem a3k{T:Array Value}{i j:Nat}{u v:Value}(h:T[i]?=some v)(hij:j≠i):(T.setIfInBounds j u)[i]?=some v:=by rw[Array.getElem?_setIfInBounds_ne hij];exact h
section
variable{F:Nat->Prop}{a:Nat}{D:Dk.D}{w:World}{T:Array Value}
end
end
section
open Go.RowKit Go.Lib Go.Maps Dk Pl
noncomputable def U6(n:Nat):Code:=Code.behind n (Tryz.f3.body.getD .skip)
noncomputable def U0(n:Nat):Code:=Code.head (U6 n)
theorem c5z:U6 0=.seq (U0 0) (U6 1):=by kernel_rfl
theorem c5A:U6 1=.seq (U0 1) (U6 2):=by kernel_rfl
theorem c5B:U6 2=.seq (U0 2) (U6 3):=by kernel_rfl
theorem c5C:U6 3=.seq (U0 3) (U6 4):=by kernel_rfl
theorem c5E:U6 4=.seq (U0 4) (U6 5):=by kernel_rfl
def QG0(T:Array Value)(v:Value)(w:World):Exit->Act->World->Prop
 | .normal,a',w'=>a'=⟨(T.setIfInBounds 2 (.pointer (some ⟨w.heap.size,0,none⟩))).setIfInBounds 4 (.bool false),[]⟩/\w'=w.alloc (.cells v.cells 27)
 | _,_,_=>False
theorem c4i(T:Array Value)(v0 v1 v2 v3 v4 v5:Value)(w:World)(hT:T.size=154)(h0:T[0]?=some (.agg #[v0,v1,v2,v3,v4,v5])):(U0 0).wp Tryz.prog (QG0 T (.agg #[v0,v1,v2,v3,v4,v5]) w) ⟨T,[]⟩ w:=by
 obtain⟨_,h0'⟩:=Array.getElem?_eq_some_iff.1 h0;clear h0;unfold U0 U6;simp only[Code.behind,Code.head,Tryz.f3,Option.getD_some];go_wp2_with fail
 exact⟨rfl,rfl⟩
def QG1(T:Array Value)(x:Value)(d:Dr)(w:World):Exit->Act->World->Prop
 | .normal,a',w'=>∃b:Bool,a'=⟨((T.setIfInBounds 25 x).setIfInBounds 26 (.bool b)).setIfInBounds 5 (.bool b),[]⟩/\(b=true->d.Small)/\Ext w w'
 | _,_,_=>False
theorem c4j(T:Array Value)(xb:Nat)(v0 v1 v3:Value)(d:Dr)(w:World)(hT:T.size=154)(h3:T[2]?=some (.pointer (some ⟨xb,0,none⟩)))(hb:o7 w xb 27 #[v0,v1,.int .u64 d.gen,v3,.bool d.whole,.bool d.without])
 (h:b1z w (.agg #[v0,v1,.int .u64 d.gen,v3,.bool d.whole,.bool d.without]) d)(hf:d.Fits 281474976710656):
 (U0 1).wp Tryz.prog (QG1 T (.agg #[v0,v1,.int .u64 d.gen,v3,.bool d.whole,.bool d.without]) d w) ⟨T,[]⟩ w:=by
 obtain⟨_,h3'⟩:=Array.getElem?_eq_some_iff.1 h3;have b0:=(hb.cell 0).trans (show _=some v0 from rfl);have b1:=(hb.cell 1).trans (show _=some v1 from rfl);have b2:=(hb.cell 2).trans (show _=some (Value.int .u64 d.gen) from rfl);have b3:=(hb.cell 3).trans (show _=some v3 from rfl);have b4:=(hb.cell 4).trans (show _=some (Value.bool d.whole) from rfl);have b5:=(hb.cell 5).trans (show _=some (Value.bool d.without) from rfl);have hsm:=b8h _ d w h hf;have HSM:=Lib.hid hsm;clear h3 hb h hf hsm;unfold U0 U6;simp only[Code.behind,Code.head,Tryz.f3,Option.getD_some];go_wp2_with fail
 refine HSM.out.mono ?_;rintro e w1 ⟨b,rfl,hsmall,hE1⟩;have HS:=Lib.hid hsmall;have HE:=Lib.hid hE1;clear hsmall hE1;go_wp2;exact⟨b,rfl,HS.out,HE.out⟩
def ch2(k:Nat):Bool:=k==27||k==28||k==29||k==30||k==31||k==32||k==33
def QG2(T:Array Value)(b:Bool)(n:Nat)(w:World):Exit->Act->World->Prop
 | .normal,a',w'=>b=true/\n<=300/\a'.defers=[]/\Kp ch2 T a'.tmps/\w'=w
 | .ret,a',w'=>a'.defers=[]/\a'.tmps[4]?=some (.bool true)/\w'=w
 | _,_,_=>False
def QG3(T:Array Value)(x:Value)(w:World):Exit->Act->World->Prop
 | .normal,a',w'=>∃(a:Nat)(F:Nat->Prop)(D:Dk.D),a'=⟨((T.setIfInBounds 34 x).setIfInBounds 35 (y8 a)).setIfInBounds 6 (y8 a),[]⟩/\y9 w' F a D/\D.Safe/\D.Fit/\Ext w w'/\∀b,F b->w.heap.size<=b
 | _,_,_=>False
theorem c4k(T:Array Value)(xb:Nat)(v0 v1 v3:Value)(d:Dr)(w:World)(hT:T.size=154)(h3:T[2]?=some (.pointer (some ⟨xb,0,none⟩)))(hb:o7 w xb 27 #[v0,v1,.int .u64 d.gen,v3,.bool d.whole,.bool d.without])
 (h:b1z w (.agg #[v0,v1,.int .u64 d.gen,v3,.bool d.whole,.bool d.without]) d)(hs:d.Small)(hL:Laid w):
 (U0 3).wp Tryz.prog (QG3 T (.agg #[v0,v1,.int .u64 d.gen,v3,.bool d.whole,.bool d.without]) w) ⟨T,[]⟩ w:=by
 obtain⟨_,h3'⟩:=Array.getElem?_eq_some_iff.1 h3;have b0:=(hb.cell 0).trans (show _=some v0 from rfl);have b1:=(hb.cell 1).trans (show _=some v1 from rfl);have b2:=(hb.cell 2).trans (show _=some (Value.int .u64 d.gen) from rfl);have b3:=(hb.cell 3).trans (show _=some v3 from rfl);have b4:=(hb.cell 4).trans (show _=some (Value.bool d.whole) from rfl);have b5:=(hb.cell 5).trans (show _=some (Value.bool d.without) from rfl);have hdk:=b94 _ d w h hs hL;have HDK:=Lib.hid hdk;clear h3 hb h hs hL hdk;unfold U0 U6;simp only[Code.behind,Code.head,Tryz.f3,Option.getD_some];go_wp2_with fail
 refine HDK.out.mono ?_;rintro e w2 ⟨a,F,D,rfl,hD,hsafe,hdat,hlen,hnam,hE2,hF⟩;have hfin:y9 w2 F a D/\D.Safe/\D.Fit/\Ext w w2/\∀b,F b->w.heap.size<=b:=⟨hD,hsafe,⟨hdat,hlen,hnam⟩,hE2,hF⟩;have HF:=Lib.hid hfin;clear hfin hD hsafe hdat hlen hnam hE2 hF;unfold y8;go_wp2;exact⟨a,F,D,rfl,HF.out⟩
end
end Go.Proofs.YtgpbhjjajpbeeaaGreatDoor
