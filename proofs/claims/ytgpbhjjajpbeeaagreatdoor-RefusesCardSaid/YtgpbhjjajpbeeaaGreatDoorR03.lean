/- A part of what the last file proves. -/
import Derived.Test.YtgpbhjjajpbeeaaGreatDoorR02
import Derived.Maps.OwnOps
import Derived.Maps.Views
import Derived.StringKeys
set_option linter.all false
set_option maxRecDepth 100000
set_option maxHeartbeats 2000000
namespace Go.Proofs.YtgpbhjjajpbeeaaGreatDoor
section
open Go.RowKit Go.Lib
structure Chg(F F':Nat->Prop)(w w':World):Prop where
 os:w'.os=w.os
 tape:w'.tape=w.tape
 output:w'.output=w.output
 size:w.heap.size<=w'.heap.size
 block:∀b,b<w.heap.size->¬F b->w'.heap[b]?=w.heap[b]?
 grow:∀b,F' b->F b\/w.heap.size<=b
theorem Chg.refl(F:Nat->Prop)(w:World):Chg F F w w:=⟨rfl,rfl,rfl,Nat.le_refl _,fun _ _ _=>rfl,fun _ h=>.inl h⟩
theorem Chg.trans{F F' F'':Nat->Prop}{a b c:World}(h:Chg F F' a b)(k:Chg F' F'' b c):Chg F F'' a c:=
 ⟨k.os.trans h.os,k.tape.trans h.tape,k.output.trans h.output,Nat.le_trans h.size k.size,
  fun x hx hF=>(k.block x (Nat.lt_of_lt_of_le hx h.size) (fun hF'=>(h.grow x hF').elim hF (by omega))).trans (h.block x hx hF),
  fun x hx=>(k.grow x hx).elim (h.grow x) (fun e=>.inr (Nat.le_trans h.size e))⟩
theorem Chg.ext{F:Nat->Prop}{w w':World}(h:Ext w w'):Chg F F w w':=
 ⟨h.os,h.tape,h.output,h.size,fun b hb _=>h.block b hb,fun _ h=>.inl h⟩
theorem Chg.off{F:Nat->Prop}{g:Nat}{w w':World}(h:Off g w w')(hg:F g):Chg F F w w':=
 ⟨h.os,h.tape,h.output,Nat.le_of_eq h.size.symm,fun b _ hF=>h.block b (fun e=>hF (e▸hg)),fun _ h=>.inl h⟩
theorem Chg.below{F F':Nat->Prop}{w w':World}{B:Nat}(h:Chg F F' w w')(hF:∀b,F b->B<=b)(hB:B<=w.heap.size):Below B w w':=
 ⟨h.os,h.tape,h.output,h.size,fun b hb=>h.block b (by omega) (fun hb'=>by have:=hF b hb';omega)⟩
def Dep(S:Nat->Prop)(Φ:World->Prop)(w:World):Prop:=∀w':World,(∀b,S b->w'.heap[b]?=w.heap[b]?)->Φ w'
def Held(w:World)(F:Nat->Prop)(Φ:World->Prop):Prop:=∃S:Nat->Prop,(∀b,S b->b<w.heap.size/\¬F b)/\Dep S Φ w
theorem Held.get{w:World}{F:Nat->Prop}{Φ:World->Prop}(h:Held w F Φ):Φ w:=let ⟨_,_,h2⟩:=h;h2 w fun _ _=>rfl
theorem Held.mono{w:World}{F:Nat->Prop}{Φ Ψ:World->Prop}(h:Held w F Φ)(k:∀w,Φ w->Ψ w):Held w F Ψ:=
 let ⟨S,h1,h2⟩:=h;⟨S,h1,fun w' hw=>k w' (h2 w' hw)⟩
theorem Held.and{w:World}{F:Nat->Prop}{Φ Ψ:World->Prop}(h:Held w F Φ)(k:Held w F Ψ):Held w F (fun w=>Φ w/\Ψ w):=by
 obtain⟨S,h1,h2⟩:=h;obtain⟨T,k1,k2⟩:=k;exact⟨fun b=>S b\/T b,fun b hb=>hb.elim (h1 b) (k1 b),fun w' hw=>⟨h2 w' fun b hb=>hw b (.inl hb),k2 w' fun b hb=>hw b (.inr hb)⟩⟩
theorem Held.true(w:World)(F:Nat->Prop):Held w F (fun _=>True):=⟨fun _=>False,fun _ h=>h.elim,fun _ _=>trivial⟩
theorem Held.step{w w':World}{F F':Nat->Prop}{Φ:World->Prop}(h:Held w F Φ)(c:Chg F F' w w'):Held w' F' Φ:=by
 obtain⟨S,h1,h2⟩:=h;refine⟨S,fun b hb=>⟨Nat.lt_of_lt_of_le (h1 b hb).1 c.size,fun hF=>?_⟩,fun w'' hw=>h2 w'' fun b hb=>(hw b hb).trans (c.block b (h1 b hb).1 (h1 b hb).2)⟩;rcases c.grow b hF with h|h
 ·exact(h1 b hb).2 h
 ·have:=(h1 b hb).1;omega
theorem Held.ext{w w':World}{F:Nat->Prop}{Φ:World->Prop}(h:Held w F Φ)(hE:Ext w w'):Held w' F Φ:=h.step (Chg.ext hE)
theorem Held.of{w:World}{F S:Nat->Prop}{Φ:World->Prop}(h:Dep S Φ w)(hS:∀b,S b->b<w.heap.size/\¬F b):Held w F Φ:=⟨S,hS,h⟩
theorem Dep.box{w:World}{n:Nat}{t:TypeId}{cs:Array Value}(h:o7 w n t cs):Dep (fun b=>b=n) (fun w=>o7 w n t cs) w:=
 fun w' hw=>(hw n rfl).trans h
theorem Dep.map{α β:Type}{P:Program}{k:TypeId}{kf:α->Value}{vf:β->Value}{w:World}{r:Nat}{l:List (α×β)}(h:MapOf P k kf vf w r l):Dep (fun b=>b=r) (fun w=>MapOf P k kf vf w r l) w:=
 fun w' hw=>h.block (hw r rfl)
theorem Dep.row{w:World}{B:Nat}{e:TypeId}{size:Nat}{v:Value}{n:Nat}{xs:List Value}(h:w.ownsRow B e size v n xs):Dep (fun b=>v.ownBlock=some b) (fun w=>w.ownsRow B e size v n xs) w:=by
 intro w' hw;obtain⟨h1,h2⟩:=h;refine⟨h1,?_⟩;rcases h2 with h2|⟨g,cap,cur,rfl,hg,hh,r⟩
 ·exact Or.inl h2
 ·exact Or.inr ⟨g,cap,cur,rfl,hg,(hw g rfl).trans hh,r⟩
theorem Dep.ownB{w:World}{B:Nat}{v:Value}{l:List UInt8}(h:OwnB w B v l):Dep (fun b=>v.ownBlock=some b) (fun w=>OwnB w B v l) w:=Dep.row h
theorem Dep.slice{w:World}{v:Value}{n:Nat}{xs:List Value}(h:a0k w v n xs):Dep (fun b=>xs≠[]/\∃a n c,v=.slice (some a) n c/\a.block=b) (fun w=>a0k w v n xs) w:=by
 intro w' hw;obtain⟨a,cap,rfl,h1,h2,h3⟩:=h;refine⟨a,cap,rfl,h1,h2,fun hx=>?_⟩;obtain⟨b,rfl,hc⟩:=h3 hx;refine⟨b,rfl,fun i x hi=>?_⟩;have e:(b.add i).block=b.block:=by unfold Addr.add;split<;>rfl
 rw[<-hc i x hi];exact World.cell?_of_block (w:=w) (by rw[e];exact hw b.block ⟨hx,_,_,_,rfl,rfl⟩)
theorem o7.lt{w:World}{n:Nat}{t:TypeId}{cs:Array Value}(h:o7 w n t cs):n<w.heap.size:=lt_of_block h
theorem a3O{w:World}{B:Nat}{e:TypeId}{size:Nat}{v:Value}{n:Nat}{xs:List Value}(h:w.ownsRow B e size v n xs){b:Nat}(hb:v.ownBlock=some b):b<w.heap.size:=(h.lt b hb).2
theorem Held.box{w:World}{F:Nat->Prop}{n:Nat}{t:TypeId}{cs:Array Value}(h:o7 w n t cs)(hF:¬F n):Held w F (fun w=>o7 w n t cs):=
 .of (.box h) fun b e=>by subst e;exact⟨h.lt,hF⟩
theorem Held.ownB{w:World}{F:Nat->Prop}{B:Nat}{v:Value}{l:List UInt8}(h:OwnB w B v l)(hF:∀b,v.ownBlock=some b->¬F b):Held w F (fun w=>OwnB w B v l):=
 .of (.ownB h) fun b e=>⟨a3O h e,hF b e⟩
theorem Held.bytes{w:World}{F:Nat->Prop}{v:Value}{l:List UInt8}(h:Bytes w v l)(hF:∀a n c,v=.slice (some a) n c->¬F a.block):Held w F (fun w=>Bytes w v l):=by
 refine .of (.slice h) fun b⟨hx,a,n,c,hv,hb⟩=>?_;subst hb;refine⟨?_,hF a n c hv⟩;obtain⟨a',cap,hv',h1,h2,h3⟩:=h;obtain⟨b,hb,hc⟩:=h3 hx;rw[hv] at hv';injection hv' with e1;rw[<-e1] at hb;injection hb with hb;subst hb
 cases hl:l.map byteV with
 | nil=>exact absurd hl hx
 | cons x xs=>
  have:=World.block_lt_of_cell? w _ (hc 0 x (by rw[hl];rfl));have e:(a.add 0).block=a.block:=by unfold Addr.add;split<;>rfl
  rw[e] at this;exact this
end
section
open Go.RowKit Go.Lib Pl Go.Maps
def inRange(n:Int):Bool:=decide (1<=n)&&decide (n<=999999)
def a0b(l:List Int):Bool:=decide (l.length<=60)&&(l.all inRange&&decide l.Nodup)
theorem a4T:Keyed Tryz.prog 3:=int_keyed Tryz.underlying3
theorem a7P(w:World):(zeroValue 3).run Tryz.prog w=.ok (.int .i64 0) w:=by kernel_rfl
def seen{H:Type}(D:DataW H)(l:List Int)(k:Nat):Prop:=∀x:Int,D.atKey (.int .i64 x) (.lit (.int .i64 0))=.lit (.int .i64 (if x∈l.take k then 1 else 0))
def a4U(l:List Int)(k:Nat):Prop:=(l.take k).all inRange=true/\(l.take k).Nodup
theorem wrap64_small{n:Int}(h1:-1000<=n)(h2:n<=1000):wrap64 n=n:=by unfold wrap64;omega
theorem b5t{H:Type}{D:DataW H}{l:List Int}{k:Nat}{x c c2:Int}(hm:IsMap D)(hs:seen D l k)(hat:D.atKey (.int .i64 x) (.lit (.int .i64 0))=.lit (.int .i64 c))
 (hat2:(D.put (.int .i64 x) (.lit (.int .i64 (wrap64 (c+1))))).atKey (.int .i64 x) (.lit (.int .i64 0))=.lit (.int .i64 c2)):
 c=(if x∈l.take k then 1 else 0)/\c2=c+1:=by
 have h1:=(hs x).symm.trans hat;injection h1 with h1;injection h1 with _ h1;rw[atKey_put_same hm (by simp[WideAt.IsKeyLit])] at hat2;injection hat2 with h2;injection h2 with _ h2;refine⟨h1.symm,?_⟩;rw[<-h2];have:c=0\/c=1:=by rw[<-h1];split<;>simp
 rcases this with rfl|rfl
 ·exact wrap64_small (by omega) (by omega)
 ·exact wrap64_small (by omega) (by omega)
theorem b6q{H:Type}{D:DataW H}{l:List Int}{k:Nat}{x:Int}(hm:IsMap D)(hs:seen D l k)(hk:k<l.length)(hx:l[k]=x)(h0:x∉l.take k):
 seen (D.put (.int .i64 x) (.lit (.int .i64 1))) l (k+1):=by
 intro y;rw[take_snoc l k hk,hx];by_cases hy:y=x
 ·subst hy;rw[atKey_put_same hm (by simp[WideAt.IsKeyLit])];simp
 ·rw[atKey_put_other (by intro e;injection e with _ e;exact hy e),hs y];simp[hy]
theorem a6P{l:List Int}{k:Nat}{x:Int}(hg:a4U l k)(hk:k<l.length)(hx:l[k]=x)(hr:inRange x=true)(h0:x∉l.take k):a4U l (k+1):=by
 unfold a4U at *;rw[take_snoc l k hk,hx];refine⟨by simp[hg.1,hr],?_⟩;rw[List.nodup_append];exact⟨hg.2,by simp,fun a ha b hb=>by simp at hb;subst hb;exact fun e=>h0 (e▸ha)⟩
theorem a2o{l:List Int}{k:Nat}{x:Int}(hk:k<l.length)(hx:l[k]=x)(hr:inRange x=false):a0b l=false:=by
 have:l.all inRange=false:=by
  rw[List.all_eq_false];exact⟨x,hx▸List.getElem_mem hk,by simp[hr]⟩
 unfold a0b;rw[this];simp
theorem b0c{l:List Int}{k:Nat}{x:Int}(hk:k<l.length)(hx:l[k]=x)(h0:x∈l.take k):a0b l=false:=by
 have:¬l.Nodup:=by
  intro hn;have h1:(l.take (k+1)).Nodup:=hn.sublist (List.take_sublist _ _);rw[take_snoc l k hk,hx,List.nodup_append] at h1;exact h1.2.2 x h0 x (by simp) rfl
 unfold a0b;rw[decide_eq_false this];simp
theorem b2w{H:Type}(v:Value)(l:List Int)(w:World)(h:Ints w v l)(hw:∀n∈l,(Lit.int .i64 n).wf=true):
 Calls Tryz.prog 149 #[v] w fun e w'=>e=.returned (.bool (a0b l))/\Ext w w':=by
 obtain⟨a,cap,rfl,hc,hc',-⟩:=h.open;have HI:=Lib.hid h;clear h;have hmm:=@run_makeMap Tryz.prog;go_enter Tryz.func149,Tryz.ntmps149
 go_wp2;go_loopw [9] (fun i wr=>∃k:Nat,k<=l.length/\i=.int .i64 k/\a4U l k/\(∃D:DataW H,wr.ownsMap Tryz.prog 3 (plainElem Tryz.prog 3) w.heap.size k D/\seen D l k)/\Ext w wr) (fun i _=>l.length - (intOf i).toNat)
 case atStart=>exact⟨0,Nat.zero_le _,rfl,⟨rfl,List.nodup_nil⟩,⟨.map [],World.ownsMap_made _ _ _ _,fun x=>by simp[DataW.atKey]⟩,(Ext.refl w).new _⟩
 case round=>
  obtain⟨k,hk,rfl,hg,⟨D,hown,hseen⟩,hE⟩:=hrel;by_cases hlt:k<l.length
  ·obtain⟨b,rfl,hb⟩:∃b,a=some b/\wr.cell? (b.add k)=some (.int .i64 (l[k])):=by
    obtain⟨a',c',e,_,_,hf⟩:=(HI.out.ext hE).open;injection e with e1;subst e1;exact hf k hlt
   have hwx:=hw _ (List.getElem_mem hlt);have hkey:keyOf Tryz.prog 3 (.int .i64 l[k])=some (.int .i64 l[k]):=keyOf_int_mk Tryz.underlying3 hwx;have HG:=Lib.hid hg;have HS:=Lib.hid hseen;have HE:=Lib.hid hE;clear hg hseen hE;generalize hx:l[k]=x at *;obtain⟨c,hc01,hcx⟩:∃c:Int,(c=0\/c=1)/\c=(if x∈l.take k then 1 else 0):=⟨_,by split<;>simp,rfl⟩;by_cases hr:1<=x/\x<=999999
   ·have hr1:¬x<1:=by omega
    have hr2:¬999999<x:=by omega
    go_wp2_with (first|(at_lookup;refine wpList_lookup_own_int _ rfl _ _ 312 rfl 3 3 .i64 a4T Tryz.underlying312 Tryz.underlying3 (a7P _) w.heap.size _ _ rfl hown _ _ rfl hkey ?_;intro c' hat hwc)|(at_mapUpdate;refine wpList_mapUpdate_own _ rfl _ _ _ 312 rfl 3 3 a4T Tryz.underlying312 _ w.heap.size k _ rfl hown (by unfold maxLen;omega) _ _ _ rfl rfl hkey _ [] (plainElem_int Tryz.underlying3 (wrap64_wf _)) ?_;intro w1 hown1 hgrow1;obtain⟨c2,hrun2,hat2,hwc2⟩:=hown1.lookup_int a4T Tryz.underlying312 Tryz.underlying3 (a7P _) hkey)|go_in)
    ·obtain⟨e1,e2⟩:=b5t hown.isMap HS.out hat hat2;have hmem:x∈l.take k:=by
      by_cases hm:x∈l.take k
      ·exact hm
      ·rw[if_neg hm] at e1;omega
     go_ret;exact⟨by rw[b0c hlt hx hmem];rfl,HE.out.grown hgrow1 HE.out.size (fun j hj=>by cases hj;exact Nat.le_refl _)⟩
    ·obtain⟨e1,e2⟩:=b5t hown.isMap HS.out hat hat2;have hmem:x∉l.take k:=by
      intro hm;rw[if_pos hm] at e1;omega
     obtain rfl:c'=0:=by rw[if_neg hmem] at e1;exact e1
     rw[show wrap64 (0+1)=1 from wrap64_small (by omega) (by omega)] at hown1;go_roundw
     case rel=>exact⟨k+1,by omega,by go_num,a6P HG.out hlt hx (by unfold inRange;rw[decide_eq_true hr.1,decide_eq_true hr.2];rfl) hmem,⟨_,hown1,b6q hown.isMap HS.out hlt hx hmem⟩,HE.out.grown hgrow1 HE.out.size (fun j hj=>by cases hj;exact Nat.le_refl _)⟩
     case measure=>simp[intOf];omega
   ·have hrf:inRange x=false:=by
     unfold inRange;by_cases h1:1<=x
     ·rw[decide_eq_false (show ¬x<=999999 from fun h2=>hr ⟨h1,h2⟩)];simp
     ·rw[decide_eq_false h1];rfl
    by_cases h1:x<1
    ·go_wp2_with (first|(at_lookup;refine wpList_lookup_own_int _ rfl _ _ 312 rfl 3 3 .i64 a4T Tryz.underlying312 Tryz.underlying3 (a7P _) w.heap.size _ _ rfl hown _ _ rfl hkey ?_;intro c' hat hwc)|(at_mapUpdate;refine wpList_mapUpdate_own _ rfl _ _ _ 312 rfl 3 3 a4T Tryz.underlying312 _ w.heap.size k _ rfl hown (by unfold maxLen;omega) _ _ _ rfl rfl hkey _ [] (plainElem_int Tryz.underlying3 (wrap64_wf _)) ?_;intro w1 hown1 hgrow1)|go_in)
     go_ret;exact⟨by rw[a2o hlt hx hrf];rfl,HE.out.grown hgrow1 HE.out.size (fun j hj=>by cases hj;exact Nat.le_refl _)⟩
    ·have h2:999999<x:=by omega
     go_wp2_with (first|(at_lookup;refine wpList_lookup_own_int _ rfl _ _ 312 rfl 3 3 .i64 a4T Tryz.underlying312 Tryz.underlying3 (a7P _) w.heap.size _ _ rfl hown _ _ rfl hkey ?_;intro c' hat hwc)|(at_mapUpdate;refine wpList_mapUpdate_own _ rfl _ _ _ 312 rfl 3 3 a4T Tryz.underlying312 _ w.heap.size k _ rfl hown (by unfold maxLen;omega) _ _ _ rfl rfl hkey _ [] (plainElem_int Tryz.underlying3 (wrap64_wf _)) ?_;intro w1 hown1 hgrow1)|go_in)
     go_ret;exact⟨by rw[a2o hlt hx hrf];rfl,HE.out.grown hgrow1 HE.out.size (fun j hj=>by cases hj;exact Nat.le_refl _)⟩
  ·go_wp2;go_ret;obtain rfl:k=l.length:=by omega
   unfold a4U at hg;rw[List.take_length] at hg;refine⟨?_,hE⟩;unfold a0b;rw[hg.1,decide_eq_true hg.2,Bool.and_self,Bool.and_true];simp;omega
end
section
open Go.RowKit Go.Lib Pl
def a0Z(l:List Int):List UInt8:=l.flatMap fun n=>be n.toNat 4
def a1m(gen:Nat)(l:List Int):List UInt8:=be gen 8++be l.length 2++a0Z l
theorem b1h(l:List Int)(n:Int):a0Z (l++[n])=a0Z l++be n.toNat 4:=by simp[a0Z]
theorem a2a(l:List Int):(a0Z l).length=4*l.length:=by
 induction l with
 | nil=>rfl
 | cons x l ih=>simp only[a0Z,List.flatMap_cons,List.length_append,I4,List.length_cons] at *;omega
end
section
open Go.RowKit Go.Lib Pl
def cnt(l:List UInt8):Nat:=num ((l.drop 12).take 2)
def a8M(l:List UInt8)(i:Nat):Nat:=num ((l.drop (14+4*i)).take 4)
def Y0(l:List UInt8)(k:Nat):List Int:=(List.range k).map fun i=>(a8M l i:Int)
def a04(l:List UInt8):Bool:=
 decide (14<=l.length)&&(decide (l.length=14+4*cnt l)&&(decide (crc (l.drop 4)=num (l.take 4))&&a0b (Y0 l (cnt l))))
def readMan(l:List UInt8):Option (Nat×List Int):=
 if a04 l=true then some (num ((l.drop 4).take 8),Y0 l (cnt l)) else none
theorem a8N(l:List UInt8)(k:Nat):Y0 l (k+1)=Y0 l k++[(a8M l k:Int)]:=by simp[Y0,List.range_succ]
theorem a1L(l:List UInt8)(k:Nat):(Y0 l k).length=k:=by simp[Y0]
theorem b5J(l:List UInt8)(k:Nat):a8M l k<4294967296:=O0 _ 4
theorem cnt_lt(l:List UInt8):cnt l<65536:=O0 _ 2
theorem b21(l:List UInt8)(k:Nat):∀n∈Y0 l k,0<=n/\n<4294967296:=by
 intro n hn;obtain⟨i,_,rfl⟩:=List.mem_map.1 hn;have:=b5J l i;omega
theorem b23{n:Int}(h:0<=n/\n<4294967296):(Lit.int .i64 n).wf=true:=by
 simp only[Lit.wf,Bool.and_eq_true,decide_eq_true_eq];refine⟨?_,?_⟩
 ·show(-9223372036854775808:Int)<=n;omega
 ·show n<=(9223372036854775807:Int);omega
theorem Y1{l:List UInt8}(h:a04 l=false):readMan l=none:=by unfold readMan;rw[h];rfl
theorem a2t{l:List UInt8}(h:l.length<14\/l.length≠14+4*cnt l):a04 l=false:=by
 unfold a04;rcases h with h|h
 ·rw[decide_eq_false (show ¬14<=l.length by omega)];rfl
 ·rw[decide_eq_false h];simp
theorem a7f{l:List UInt8}(h:crc (l.drop 4)≠num (l.take 4)):a04 l=false:=by
 unfold a04;rw[decide_eq_false h];simp
theorem a7g{l:List UInt8}(h:a0b (Y0 l (cnt l))=false):a04 l=false:=by
 unfold a04;rw[h];simp
theorem a5I{l:List UInt8}(h1:14<=l.length)(h2:l.length=14+4*cnt l)(h3:crc (l.drop 4)=num (l.take 4))(h4:a0b (Y0 l (cnt l))=true):
 readMan l=some (num ((l.drop 4).take 8),Y0 l (cnt l)):=by
 unfold readMan a04;rw[decide_eq_true h1,decide_eq_true h2,decide_eq_true h3,h4];rfl
theorem rd3{l:List UInt8}{m g n:Nat}{s1 s2 s3:List UInt8×Bool}(e1:(m,s1)=rdN (l,false) 4)(e2:(g,s2)=rdN s1 8)(e3:(n,s3)=rdN s2 2):
 n<65536/\((l.length<14/\n=0/\s3.2=true)\/(14<=l.length/\s3=(l.drop 14,false)/\m=num (l.take 4)/\g=num ((l.drop 4).take 8)/\n=cnt l)):=by
 by_cases h4:l.length<4
 ·rw[a0x h4] at e1;injection e1 with _ e1;subst e1;rw[a0w] at e2;injection e2 with _ e2;subst e2;rw[a0w] at e3;injection e3 with e3' e3;subst e3;subst e3';exact⟨by omega,.inl ⟨by omega,rfl,rfl⟩⟩
 rw[a3n (by omega)] at e1;injection e1 with f1 e1;subst e1;by_cases h12:l.length<12
 ·rw[a0x (by simp;omega)] at e2;injection e2 with _ e2;subst e2;rw[a0w] at e3;injection e3 with e3' e3;subst e3;subst e3';exact⟨by omega,.inl ⟨by omega,rfl,rfl⟩⟩
 rw[a3n (by simp;omega)] at e2;injection e2 with f2 e2;subst e2;by_cases h14:l.length<14
 ·rw[a0x (by simp;omega)] at e3;injection e3 with e3' e3;subst e3;subst e3';exact⟨by omega,.inl ⟨by omega,rfl,rfl⟩⟩
 rw[a3n (by simp;omega)] at e3;injection e3 with e3' e3;simp only[List.drop_drop,Nat.reduceAdd] at *;refine⟨?_,.inr ⟨by omega,e3,f1,f2,e3'⟩⟩;rw[e3'];exact O0 _ 2
def b1C(l:List UInt8)(k:Nat)(s:List UInt8×Bool)(L:List Int):Prop:=
 (s=(l.drop (14+4*k),false)/\14+4*k<=l.length/\L=Y0 l k)\/(s.2=true/\(l.length<14\/l.length<14+4*cnt l))
theorem b1C.step{l:List UInt8}{k x:Nat}{s s':List UInt8×Bool}{L:List Int}(h:b1C l k s L)(hb:s.2=false)(hk:k<cnt l)(e:(x,s')=rdN s 4):x<4294967296/\b1C l (k+1) s' (L++[(x:Int)]):=by
 rcases h with⟨rfl,hl,rfl⟩|⟨h,_⟩
 ·by_cases h4:l.length<14+4*k+4
  ·rw[a0x (by simp;omega)] at e;injection e with e1 e2;subst e1;subst e2;exact⟨by omega,.inr ⟨rfl,.inr (by omega)⟩⟩
  ·rw[a3n (by simp;omega)] at e;injection e with e1 e2;subst e1;subst e2;refine⟨O0 _ 4,.inl ⟨?_,by omega,?_⟩⟩
   ·rw[List.drop_drop];congr 2
   ·rw[a8N];rfl
 ·rw[h] at hb;cases hb
theorem b1C.all{l:List UInt8}{s:List UInt8×Bool}{L:List Int}(h:b1C l (cnt l) s L)(hb:s.2=false):s.1=l.drop (14+4*cnt l)/\14+4*cnt l<=l.length/\L=Y0 l (cnt l):=by
 rcases h with⟨rfl,h1,h2⟩|⟨h,_⟩
 ·exact⟨rfl,h1,h2⟩
 ·rw[h] at hb;cases hb
theorem b1C.bad{l:List UInt8}{k:Nat}{s:List UInt8×Bool}{L:List Int}(h:b1C l k s L)(hb:s.2=true):a04 l=false:=by
 rcases h with⟨rfl,_⟩|⟨_,h⟩
 ·cases hb
 ·exact a2t (by omega)
end
section
open Go.RowKit Go.Lib Pl
def b5K(b B:Nat)(l:List UInt8)(w:World)(e:Ending)(w':World):Prop:=e=.returned (.slice none 0 0)/\J6 w' b B l true/\Off b w w'
def b5L(b B n:Nat)(l:List UInt8)(w:World)(e:Ending)(w':World):Prop:=∃v,e=.returned v/\X3 w' B v (l.take n)/\J6 w' b B (l.drop n) false/\Off b w w'
theorem b94(b B n:Nat)(l:List UInt8)(bad:Bool)(w:World)(h:J6 w b B l bad)(hn:bad=true\/l.length<n):
 Calls Tryz.prog 166 #[.pointer (some ⟨b,0,none⟩),.int .u64 n] w (b5K b B l w):=by
 obtain⟨v,hb,hBb,hv⟩:=h;have hfin:b5K b B l w (.returned (.slice none 0 0)) (w.setCell ⟨b,1,none⟩ (.bool true)):=by
  have hB:Off b w (w.setCell ⟨b,1,none⟩ (.bool true)):=(Off.refl b w).setCell 1 _;exact⟨rfl,⟨v,b3c hb,hBb,hv.below (hB.below hBb)⟩,hB⟩
 have HF:=Lib.hid hfin;clear hfin;obtain⟨hc0,hc1,hf0,hf1⟩:=a1V hb;clear hb;obtain⟨⟨a,cap,rfl,h1,h2,h3⟩,h4⟩:=hv;have hwl:IntKind.u64.wrap (l.length:Int)=(l.length:Int):=by rw[IntKind.wrap_u64];omega
 clear h2 h3 h4;by_cases hbad:bad=true
 ·subst hbad;go_enter Tryz.func166,Tryz.ntmps166
  go_wp2;go_ret;exact HF.out
 ·obtain rfl:bad=false:=by simpa using hbad
  have hlt:l.length<n:=by simpa using hn
  go_enter Tryz.func166,Tryz.ntmps166
  go_wp2;go_ret;exact HF.out
theorem b95(b B n:Nat)(l:List UInt8)(w:World)(h:J6 w b B l false)(hn:n<=l.length):
 Calls Tryz.prog 166 #[.pointer (some ⟨b,0,none⟩),.int .u64 n] w (b5L b B n l w):=by
 obtain⟨v,hb,hBb,hv⟩:=h;obtain⟨⟨a,cap,rfl,h1,h2,h3⟩,h4⟩:=id hv;have HV:=Lib.hid hv;have HB:=Lib.hid hb;obtain⟨hc0,hc1,hf0,hf1⟩:=a1V hb;clear hb hv;have hwl:IntKind.u64.wrap (l.length:Int)=(l.length:Int):=by rw[IntKind.wrap_u64];omega
 have hnl:¬l.length<n:=by omega
 clear h2 h3 h4;have hfin:∀u,X3 w B u (l.drop n)->b5L b B n l w (.returned (.slice a n n)) (w.setCell ⟨b,0,none⟩ u):=by
  intro u hu;have hB:Off b w (w.setCell ⟨b,0,none⟩ u):=(Off.refl b w).setCell 0 _;exact⟨_,rfl,(HV.out.head n hn).below (hB.below hBb),⟨u,b3b HB.out,hBb,hu.below (hB.below hBb)⟩,hB⟩
 have ht:=HV.out.sliced n l.length hn (Nat.le_refl _);rw[List.take_length] at ht;have HF:=Lib.hid hfin;clear hfin;have HT:=Lib.hid ht;clear ht;by_cases hcn:cap=n
 ·subst hcn;have HT':=Lib.hid (by simpa using HT.out:X3 w B (.slice a (l.length - cap) 0) (l.drop cap));go_enter Tryz.func166,Tryz.ntmps166
  go_wp2;go_ret;have e0:l.length - cap=0:=by omega
  have ht:=HT'.out;rw[e0] at ht;exact HF.out _ ht
 ·have HT':=Lib.hid (by simpa [hcn] using HT.out:X3 w B (.slice (Option.map (fun x=>x.add n) a) (l.length - n) (cap - n)) (l.drop n));go_enter Tryz.func166,Tryz.ntmps166
  go_wp2;go_ret;exact HF.out _ HT'.out
def a6z(b B:Nat)(m:Nat)(l:List UInt8)(bad:Bool)(w:World)(e:Ending)(w':World):Prop:=e=.returned (.int .u64 m)/\J6 w' b B l bad/\Off b w w'
theorem b29(b B n:Nat)(l:List UInt8)(bad:Bool)(w:World)(h:J6 w b B l bad)(hn:bad=true\/l.length<n):
 Calls Tryz.prog 126 #[.pointer (some ⟨b,0,none⟩),.int .u64 n] w (a6z b B 0 l true w):=by
 have H:=Lib.hid h;clear h;go_enter Tryz.func126,Tryz.ntmps126
 go_wp2_with fail
 refine(b94 b B n l bad w H.out hn).mono ?_;rintro e w1 ⟨rfl,h1,h2⟩;have H1:=Lib.hid h1;clear h1;go_wp2;refine wp_loop_rounds 1 ?_;rw[rounds_succ];go_wp2;go_ret;exact⟨rfl,H1.out,h2⟩
theorem b3a(b B n:Nat)(l:List UInt8)(w:World)(h:J6 w b B l false)(hn:n<=l.length)(h8:n<=8):
 Calls Tryz.prog 126 #[.pointer (some ⟨b,0,none⟩),.int .u64 n] w (a6z b B (num (l.take n)) (l.drop n) false w):=by
 have H:=Lib.hid h;clear h;go_enter Tryz.func126,Tryz.ntmps126
 go_wp2_with fail
 refine(b95 b B n l w H.out hn).mono ?_;rintro e w1 ⟨v,rfl,⟨hv,_⟩,h1,h2⟩;have H1:=Lib.hid h1;clear h1;have hlen:(l.take n).length<=8:=by rw[List.length_take];omega
 generalize l.take n=m at *;obtain⟨a,cap,rfl,hc,hc',hcell⟩:=hv.open;go_wp2;go_loop [5,7,12] (fun c _ i=>∃k:Nat,k<=m.length/\i=.int .i64 k/\c=.int .u64 (num (m.take k))) (fun _ _ i=>m.length - (intOf i).toNat)
 case atStart=>exact⟨0,Nat.zero_le _,rfl,rfl⟩
 case round=>
  obtain⟨k,hk,rfl,rfl⟩:=hrel;by_cases hlt:k<m.length
  ·obtain⟨ad,rfl,hb⟩:=hcell k hlt;have hs:Hid (num (m.take (k+1))=num (m.take k)*256+m[k].toNat):=by
    have e:num (m.take (k+1))=num (m.take k)*256+m[k].toNat:=by rw[take_snoc m k hlt,a8L]
    exact e
   have hC:num (m.take k)<256^7:=Nat.lt_of_lt_of_le (b1y _) (Nat.pow_le_pow_right (by omega) (by rw[List.length_take];omega));clear hcell;generalize num (m.take k)=C at *;have hx:=b0t m[k];generalize m[k]=x at *;have hC':C<72057594037927936:=hC;clear hC;go_wp2;go_round
   case rel=>
    refine⟨k+1,by omega,by go_num,?_⟩;rw[hs.out,b5O hC']
   case measure=>simp[intOf];omega
  ·go_wp2;go_ret;obtain rfl:k=m.length:=by omega
   exact⟨by rw[List.take_length];rfl,H1.out,h2⟩
theorem a1M(b B n:Nat)(s:List UInt8×Bool)(w:World)(h:J6 w b B s.1 s.2)(h8:n<=8):
 Calls Tryz.prog 126 #[.pointer (some ⟨b,0,none⟩),.int .u64 n] w (a6z b B (rdN s n).1 (rdN s n).2.1 (rdN s n).2.2 w):=by
 unfold rdN;by_cases hc:s.2=true\/s.1.length<n
 ·rw[if_pos hc];exact b29 b B n s.1 s.2 w h hc
 ·rw[if_neg hc];have h2:s.2=false:=by simpa using fun e=>hc (.inl e)
  rw[h2] at h;exact b3a b B n s.1 w h (by omega) h8
end
section
open Go.RowKit Go.Lib Pl
def OwnI(w:World)(B:Nat)(v:Value)(l:List Int):Prop:=w.ownsRow B 3 1 v l.length (l.map (Value.int .i64))
theorem OwnI.ints{w:World}{B:Nat}{v:Value}{l:List Int}(h:OwnI w B v l):Ints w v l:=by
 have hh:=h;rcases h.2 with⟨rfl,h0⟩|⟨g,cap,cur,rfl,hb,hg,h1,h2,h3,h4⟩
 ·have:l=[]:=List.eq_nil_of_length_eq_zero h0;subst this;exact⟨none,0,rfl,by simp,⟨by omega,fun _=>rfl⟩,by simp⟩
 ·exact⟨some ⟨g,0,none⟩,cap,rfl,h1,⟨by unfold maxLen at h2;omega,fun h=>by cases h⟩,fun _=>⟨_,rfl,fun i x hx=>hh.cells rfl i x hx⟩⟩
def c3W(r:Option (Nat×List Int))(w:World)(e:Ending)(w':World):Prop:=
 ∃g v y,e=.returned (.tuple #[.agg #[.int .u64 g,v],y])/\Ext w w'/\
  ((r=none/\g=0/\v=.slice none 0 0/\y=Y5 6)\/(∃gen ids,r=some (gen,ids)/\g=(gen:Int)/\y=.nilIface/\OwnI w' w.heap.size v ids))
def a4b(w wr:World)(rb mb g:Nat)(s:List UInt8×Bool)(L:List Int)(v:Value):Prop:=
 J6 wr rb w.heap.size s.1 s.2/\o7 wr w.heap.size 125 #[.int .u64 0,.slice none 0 0]/\o7 wr mb 125 #[.int .u64 g,v]/\OwnI wr w.heap.size v L/\Ext w wr/\w.heap.size<rb/\rb<mb
theorem a4b.off{w wr w1:World}{rb mb g:Nat}{s s':List UInt8×Bool}{L:List Int}{v:Value}(h:a4b w wr rb mb g s L v)(hO:Off rb wr w1)(hR:J6 w1 rb w.heap.size s'.1 s'.2):a4b w w1 rb mb g s' L v:=by
 obtain⟨h1,h2,h3,h4,h5,h6,h7⟩:=h;obtain⟨rv,hr1,_,_⟩:=h1;have hne:=ownsRow_ne h4 hr1 (by decide);refine⟨hR,hO.box h2 (by omega),hO.box h3 (by omega),?_,Below.trans h5 (hO.below (by omega)),h6,h7⟩;obtain⟨q1,q2⟩:=h4;refine⟨q1,?_⟩;rcases q2 with q2|⟨gb,cap,cur,rfl,hg,hh,r⟩
 ·exact Or.inl q2
 ·exact Or.inr ⟨gb,cap,cur,rfl,hg,(hO.block gb (by intro e;subst e;exact hne rfl)).trans hh,r⟩
theorem a4b.ext{w wr w1:World}{rb mb g:Nat}{s:List UInt8×Bool}{L:List Int}{v:Value}(h:a4b w wr rb mb g s L v)(hE:Ext wr w1):a4b w w1 rb mb g s L v:=by
 obtain⟨h1,h2,h3,h4,h5,h6,h7⟩:=h;obtain⟨rv,hr1,hr2,hr3⟩:=h1;have hl2:=lt_of_block h2;have hl3:=lt_of_block h3;have hl1:=lt_of_block hr1;exact⟨⟨rv,(hE.block _ hl1).trans hr1,hr2,hr3.below (hE.mono (by omega))⟩,h2.below hE hl2,h3.below hE hl3,ownsRow_below h4 hE,Ext.trans h5 hE,h6,h7⟩
theorem a4b.grow{w wr w0 w1:World}{rb mb g:Nat}{s:List UInt8×Bool}{L:List Int}{v v':Value}(h:a4b w wr rb mb g s L v)(hb0:Ext wr w0)(hgrow:w0.grownBy w1 v.ownBlock)
 {n:Nat}{xs:List Value}(hown1:w1.ownsRow w.heap.size 3 1 v' n xs){L':List Int}(hn:n=L'.length)(hx:xs=L'.map (Value.int .i64)):
 o7 w1 mb 125 #[.int .u64 g,v]/\a4b w (w1.setCell ⟨mb,1,none⟩ v') rb mb g s L' v':=by
 subst hn;subst hx;obtain⟨h1,h2,h3,h4,h5,h6,h7⟩:=h.ext hb0;obtain⟨rv,hr1,hr2,hr3⟩:=h1;have hl2:=lt_of_block h2;have hl3:=lt_of_block h3;have hl1:=lt_of_block hr1;have hne1:=ownsRow_ne h4 hr1 (by decide);have hne2:=ownsRow_ne h4 h2 (by decide);have hne3:=ownsRow_ne h4 h3 (by decide);have hr1':=(hgrow.block rb hl1 (Ne.symm hne1)).trans hr1;have h2':o7 w1 w.heap.size 125 #[.int .u64 0,.slice none 0 0]:=(hgrow.block _ hl2 (Ne.symm hne2)).trans h2;have h3':o7 w1 mb 125 #[.int .u64 g,v]:=(hgrow.block mb hl3 (Ne.symm hne3)).trans h3;have hlow:∀k,v.ownBlock=some k->w.heap.size<=k:=fun k hk=>(h4.lt k hk).1;have hE1:Ext w w1:=Below.grown h5 hgrow (by have:=h5.size;omega) hlow;refine⟨h3',⟨rv,?_,hr2,?_⟩,?_,h3'.set 1 v',?_,hE1.setN (by simp;omega),h6,h7⟩
 ·rw[Below.heap_setCell _ _ _ _ (by simp;omega)];exact hr1'
 ·have hB:Below w.heap.size w0 (w1.setCell ⟨mb,1,none⟩ v'):=((Below.refl _ w0).grown hgrow (by have:=h5.size;omega) hlow).setCell (by simp;omega) _;exact hr3.below hB
 ·exact h2'.setOther (by simp;omega) _
 ·exact ownsRow_setCell_other (a:=⟨mb,1,none⟩) hown1 (ownsRow_ne hown1 (b:=mb) (t:=125) (by exact h3') (by decide)) _
theorem b93{w:World}{n B:Nat}{u1 u2:Value}{v:Value}{L:List Int}(hX:o7 w n 125 #[u1,u2])(h:OwnI w B v L)(g:Nat)(v':Value):
 OwnI ((w.setCell ⟨n,0,none⟩ (.int .u64 g)).setCell ⟨n,1,none⟩ v') B v L:=by
 have hne:=ownsRow_ne h (b:=n) (t:=125) (by exact hX) (by decide);exact ownsRow_setCell_other (a:=⟨n,1,none⟩) (ownsRow_setCell_other (a:=⟨n,0,none⟩) h hne _) hne _
theorem b1B(v:Value)(l:List UInt8)(w:World)(h:Bytes w v l):
 Calls Tryz.prog 94 #[v] w (c3W (readMan l) w):=by
 obtain⟨⟨m1,s1⟩,e1⟩:∃p,p=rdN (l,false) 4:=⟨_,rfl⟩;obtain⟨⟨gen,s2⟩,e2⟩:∃p,p=rdN s1 8:=⟨_,rfl⟩;obtain⟨⟨n,s3⟩,e3⟩:∃p,p=rdN s2 2:=⟨_,rfl⟩;obtain⟨hn,hall⟩:=rd3 e1 e2 e3;have HA:=Lib.hid hall;clear hall;have E1:=Lib.hid e1;have E2:=Lib.hid e2;have E3:=Lib.hid e3;clear e1 e2 e3;obtain⟨i0,hi,hz0,hz1,hz2⟩:=info_parts a8t;obtain⟨a,cap,rfl,h1,h2,h3⟩:=id h;have HL:=Lib.hid (X3.of h);clear h h2 h3;go_enter Tryz.func94,Tryz.ntmps94
 go_wp2_with fail
 have x0:o7 (w.alloc (.cells #[.int .u64 0,.slice none 0 0] 125)) w.heap.size 125 #[.int .u64 0,.slice none 0 0]:=heap_alloc_new w _;have X:=x0.alloc (.cells #[.slice a l.length cap,.bool false] 241);have hEx:Ext w ((w.alloc (.cells #[.int .u64 0,.slice none 0 0] 125)).alloc (.cells #[.slice a l.length cap,.bool false] 241)):=((Ext.refl w).new _).new _;have hR:J6 ((w.alloc (.cells #[.int .u64 0,.slice none 0 0] 125)).alloc (.cells #[.slice a l.length cap,.bool false] 241)) (w.heap.size+1) w.heap.size l false:=by
  refine⟨.slice a l.length cap,?_,by omega,HL.out.below hEx⟩;exact o7.new _ _ (by simp)
 clear x0;have c1:=a1M (w.heap.size+1) w.heap.size 4 (l,false) _ hR (by omega);rw[<-E1.out] at c1;refine c1.mono ?_;clear c1 hR;rintro e w1 ⟨rfl,hR,hb⟩;replace hEx:=Below.trans hEx (hb.below (by omega));replace X:=hb.box X (by omega);clear hb;go_wp2_with fail
 have c2:=a1M (w.heap.size+1) w.heap.size 8 s1 _ hR (by omega);rw[<-E2.out] at c2;refine c2.mono ?_;clear c2 hR;rintro e w2 ⟨rfl,hR,hb⟩;replace hEx:=Below.trans hEx (hb.below (by omega));replace X:=hb.box X (by omega);clear hb;obtain⟨mb,hmb⟩:∃mb,mb=w2.heap.size:=⟨_,rfl⟩;have hlt:w.heap.size+1<mb:=by
  obtain⟨_,hr,_⟩:=hR;rw[hmb];exact lt_of_block hr
 go_wp2_with fail
 have hS0:a4b w (w2.alloc (.cells #[.int .u64 gen,.slice none 0 0] 125)) (w.heap.size+1) mb gen s2 [] (.slice none 0 0):=by
  have hE2:Ext w2 (w2.alloc (.cells #[.int .u64 gen,.slice none 0 0] 125)):=(Ext.refl _).new _;obtain⟨rv,hr1,hr2,hr3⟩:=hR;refine⟨⟨rv,?_,hr2,hr3.below (hE2.mono (by have:=hEx.size;omega))⟩,X.alloc _,o7.new _ _ hmb.symm,⟨rfl,Or.inl ⟨rfl,rfl⟩⟩,Ext.new hEx _,by omega,hlt⟩;exact(hE2.block _ (lt_of_block hr1)).trans hr1
 rw[<-hmb];have c3:=a1M (w.heap.size+1) w.heap.size 2 s2 _ hS0.1 (by omega);rw[<-E3.out] at c3;refine c3.mono ?_;clear c3 hR hEx X;rintro e w3 ⟨rfl,hR,hb⟩;have hS:=hS0.off hb hR;clear hS0 hb hR;clear hmb;have hU:b1C l 0 s3 []:=by
  rcases HA.out with⟨h1,_,h3⟩|⟨h1,h2,_⟩
  ·exact Or.inr ⟨h3,Or.inl h1⟩
  ·exact Or.inl ⟨h2,by omega,rfl⟩
 have hN:s3.2=false->n=cnt l/\14<=l.length/\m1=num (l.take 4)/\gen=num ((l.drop 4).take 8):=by
  intro hf;rcases HA.out with⟨_,_,h3⟩|⟨h1,_,h3,h4,h5⟩
  ·rw[h3] at hf;cases hf
  ·exact⟨h5,h1,h3,h4⟩
 have hN0:n<=cnt l/\(s3.2=true->n=0):=by
  rcases HA.out with⟨_,h2,_⟩|⟨_,h2,_,_,h5⟩
  ·exact⟨by omega,fun _=>h2⟩
  ·exact⟨by omega,fun h=>by rw[h2] at h;cases h⟩
 have HN:=Lib.hid hN;have HN0:=Lib.hid hN0;have HS:=Lib.hid hS;have HU:=Lib.hid hU;clear hN hN0 hS hU HA E1 E2 E3;go_wp2;go_loopw [7] (fun c wr=>∃(k:Nat)(s:List UInt8×Bool)(L:List Int)(v:Value),k<=n/\c=.int .u64 ((n:Int) - k)/\L.length=k/\(∀x∈L,(Lit.int .i64 x).wf=true)/\b1C l k s L/\(s3.2=true->s.2=true)/\a4b w wr (w.heap.size+1) mb gen s L v) (fun c _=>(intOf c).toNat)
 case atStart=>exact⟨0,s3,[],.slice none 0 0,Nat.zero_le _,by simp,rfl,by simp,HU.out,fun h=>h,HS.out⟩
 case round=>
  clear HS HU;obtain⟨k,s,L,v,hk,rfl,hLk,hwf,hU,hs3,hSt⟩:=hrel;obtain⟨rv,hr1,hr2,hr3⟩:=id hSt.1;obtain⟨rc0,rc1,rf0,rf1⟩:=a1V hr1;have xc0:=hSt.2.1.cell 0;have xc1:=hSt.2.1.cell 1;have xf0:=hSt.2.1.free 0;have xf1:=hSt.2.1.free 1;have mc0:=hSt.2.2.1.cell 0;have mc1:=hSt.2.2.1.cell 1;have mf1:=hSt.2.2.1.free 1;have HSt:=Lib.hid hSt;have HU:=Lib.hid hU;have HW:=Lib.hid hwf;have HR3:=Lib.hid hr3;clear hSt hU hwf hr1 hr2 hr3 rf0 rf1;by_cases hbad:s.2=true
  ·have hd:readMan l=none:=Y1 (HU.out.bad hbad);rw[hbad] at rc1;have HX:=Lib.hid HSt.out.2.2.2.2.1;clear HSt HU HN HN0;by_cases hkn:k<n
   ·go_wp2;refine bodyPost_ret (v:=.tuple #[.agg #[.int .u64 0,.slice none 0 0],Y5 6]) (by simp[results,Tryz.results94,go_sem,xc0,xc1,Y5]) rfl ⟨0,_,_,rfl,?_,Or.inl ⟨hd,rfl,rfl,rfl⟩⟩;repeat' refine Ext.setN ?_ (by simp)
    exact HX.out
   ·go_wp2;refine bodyPost_ret (v:=.tuple #[.agg #[.int .u64 0,.slice none 0 0],Y5 6]) (by simp[results,Tryz.results94,go_sem,xc0,xc1,Y5]) rfl ⟨0,_,_,rfl,?_,Or.inl ⟨hd,rfl,rfl,rfl⟩⟩;repeat' refine Ext.setN ?_ (by simp)
    exact HX.out
  ·have hbf:s.2=false:=Bool.eq_false_iff.2 hbad;rw[hbf] at rc1;have hs3f:s3.2=false:=by
    cases h:s3.2 with
    | false=>rfl
    | true=>rw[hs3 h] at hbf;cases hbf
   obtain⟨hnc,hl14,hm1,hgen⟩:=HN.out hs3f;have HM1:=Lib.hid hm1;have HGEN:=Lib.hid hgen;have HNC:=Lib.hid hnc;have HLK:=Lib.hid hLk;clear hm1 hgen hLk;by_cases hkn:k<n
   ·obtain⟨⟨x,s'⟩,ex⟩:∃p,p=rdN s 4:=⟨_,rfl⟩;obtain⟨hx32,hU'⟩:=HU.out.step hbf (by omega) ex;have hwx:IntKind.i64.wrap (x:Int)=(x:Int):=IntWalk.i64_in _ (by omega);have hLn:L.length<65536:=by have:=HLK.out;omega
    clear hnc;have hcall:=a1M (w.heap.size+1) w.heap.size 4 s wr.drew (by
     obtain⟨q1,q2,q3,q4⟩:=HSt.out.1;exact⟨q1,q2,q3,q4.below ((Below.refl _ _).drew)⟩) (by omega)
    rw[<-ex] at hcall;have HU':=Lib.hid hU';have HC:=Lib.hid hcall;have HEX:=Lib.hid ex;clear hU' hcall ex;have hn16:n<65536:=hn;go_wp2_with fail
    go_region_law (first|(go_simp;go_at_call 126;refine HC.out.mono ?_;rintro e w5 ⟨rfl,hR5,hb5⟩;have hS5:=Lib.hid ((HSt.out.ext (Below.drew (Ext.refl wr))).off hb5 hR5);have m5:=hS5.out.2.2.1.cell 1;have mf5:=hS5.out.2.2.1.free 1;have ma5:=(hS5.out.2.2.1.alloc (.cells #[.int .i64 x] 3)).cell 1;clear hR5 hb5)|(refine step_append_lies _ (by rfl) _ _ _ (by rfl) w.heap.size 3 i0 _ 1 8 Tryz.underlying69 hi hz0 hz1 hz2 rfl (by omega) v L.length (L.map (Value.int .i64)) (by rfl) (hS5.out.2.2.2.1.alloc _) ⟨w5.heap.size,0,none⟩ 1 1 [_] (by rfl) (by rfl) (World.news_of_block (cs:=#[_]) (t:=3) (fr:=(0,0)) (heap_alloc_new w5 _)) (by simp[Value.oneCell']) (by omega) (by unfold maxLen;omega) (by omega) (by have:=hS5.out.2.2.2.2.1.size;simp;omega) (w5.heap.size+1) (by simp) ?_;intro gg cap6 w6 hown6 hgrow6 hat6 hlt6;have HST:=Lib.hid (hS5.out.grow (L':=L++[(x:Int)]) (Ext.new (Ext.refl w5) _) hgrow6 hown6 (by simp) (by simp));have m6:=HST.out.1.cell 1;have mf6:=HST.out.1.free 1))
    all_goals
     go_wp2;go_roundw
     case rel=>
      have hwf':∀y∈L++[(x:Int)],(Lit.int .i64 y).wf=true:=by
       intro y hy;rcases List.mem_append.1 hy with h|h
       ·exact HW.out y h
       ·simp only[List.mem_singleton] at h;subst h;exact b23 ⟨by omega,by omega⟩
      have hs3':s3.2=true->s'.2=true:=fun h=>absurd (h.symm.trans hs3f) (by decide);exact⟨k+1,s',L++[(x:Int)],_,by omega,by go_num,by have:=HLK.out;simp;omega,hwf',HU'.out,hs3',HST.out.2⟩
     case measure=>simp[intOf];omega
   ·obtain rfl:k=n:=by omega
    obtain⟨ra,rcap,rfl,hrc,hrc',-⟩:=HR3.out.1.open;rw[hnc] at HU;obtain⟨hrest,hlen,hLL⟩:=HU.out.all hbf;have hrl:s.1.length=l.length - (14+4*cnt l):=by rw[hrest];simp
    rw[hrl] at rc0;have HX:=Lib.hid HSt.out.2.2.2.2.1;by_cases hlong:14+4*cnt l<l.length
    ·have hd:readMan l=none:=Y1 (a2t (by omega));clear HSt HU HN HN0;go_wp2;refine bodyPost_ret (v:=.tuple #[.agg #[.int .u64 0,.slice none 0 0],Y5 6]) (by simp[results,Tryz.results94,go_sem,xc0,xc1,Y5]) rfl ⟨0,_,_,rfl,?_,Or.inl ⟨hd,rfl,rfl,rfl⟩⟩;repeat' refine Ext.setN ?_ (by simp)
     exact HX.out
    ·have hl:l.length=14+4*cnt l:=by omega
     have hsl:∀W:World,Below w.heap.size w W->Bytes W (.slice (a.map (fun x=>⟨x.block,x.off+4,none⟩)) (l.length - 4) (cap - 4)) (l.drop 4):=by
      intro W hW;have:=((HL.out.below hW).sliced 4 l.length (by omega) (by omega)).1;rw[if_neg (by omega),List.take_length] at this;have e:a.map (fun x=>x.add 4)=a.map (fun x=>⟨x.block,x.off+4,none⟩):=by
       congr 1
      rw[<-e];exact this
     have HS:=Lib.hid hsl;clear hsl;have hs4:(4:Nat)<=l.length:=by omega
     have hs5:l.length<=cap:=h1;have hs6:¬cap=4:=by omega
     have hm4:m1<4294967296:=by rw[HM1.out];exact O0 l 4
     have hcall:=b2w (H:=Unit) v L wr HSt.out.2.2.2.1.ints HW.out;have hII:a0b L=a0b (Y0 l (cnt l)):=by rw[hLL]
     have hOwn:OwnI wr w.heap.size v L:=HSt.out.2.2.2.1;have HO:=Lib.hid hOwn;have HSS:=Lib.hid (HS.out wr HX.out);rw[hl] at HSS;have hw3:∀c:Nat,c<4294967296->IntKind.u64.wrap (c:Int)=(c:Int):=fun c h=>by rw[IntKind.wrap_u64];omega
     have hwc:=hw3 _ (a4a (l.drop 4));have hne:(¬crc (l.drop 4)=m1->((crc (l.drop 4):Int) != (m1:Int))=true)/\(crc (l.drop 4)=m1->((crc (l.drop 4):Int) != (m1:Int))=false):=
      ⟨fun h=>by rw[bne,beq_eq_false_iff_ne.2 (by omega)];rfl,fun h=>by rw[bne,beq_iff_eq.2 (by omega)];rfl⟩
     have HNE:=Lib.hid hne;have HC:=Lib.hid hcall;have HII:=Lib.hid hII;have HLL:=Lib.hid hLL;clear hl14 hw3 hne hcall hII hLL hOwn HS;go_wp2_with fail
     refine(sum_any _ _ _ HSS.out).mono ?_;rintro e w8 ⟨rfl,hw⟩;subst hw;by_cases hcr:crc (l.drop 4)=m1
     ·have hcr':=HNE.out.2 hcr;obtain⟨va,vc,rfl⟩:=ownsRow_form HO.out;go_wp2_with fail
      refine HC.out.mono ?_;rintro e w9 ⟨rfl,hE9⟩;have X9:=HSt.out.2.1.below hE9 (lt_of_block HSt.out.2.1);have M9:=HSt.out.2.2.1.below hE9 (lt_of_block HSt.out.2.2.1);have hO9:OwnI w9 w.heap.size (.slice va L.length vc) L:=ownsRow_below HO.out hE9;have hOe:=b93 X9 hO9 gen (.slice va L.length vc);have hE:Ext w w9:=Ext.trans HX.out hE9;have HXE:=Lib.hid hE;have HO9:=Lib.hid hO9;clear xc0 xc1 xf0 xf1 mc0 mc1 mf1 rc0 rc1 hE hO9 hE9;have xc0:=X9.cell 0;have xc1:=X9.cell 1;have xf0:=X9.free 0;have xf1:=X9.free 1;have mc0:=M9.cell 0;have mc1:=M9.cell 1;clear X9 M9
      cases hok:a0b L with
      | false=>
       have hd:readMan l=none:=Y1 (a7g (by rw[<-HII.out];exact hok));go_wp2;refine bodyPost_ret (v:=.tuple #[.agg #[.int .u64 0,.slice none 0 0],Y5 6]) (by simp[results,Tryz.results94,go_sem,xc0,xc1,Y5]) rfl ⟨0,_,_,rfl,?_,Or.inl ⟨hd,rfl,rfl,rfl⟩⟩;repeat' refine Ext.setN ?_ (by simp)
       exact HXE.out
      | true=>
       have hd:readMan l=some (num ((l.drop 4).take 8),Y0 l (cnt l)):=a5I (by omega) hl (by rw[<-HM1.out];exact hcr) (by rw[<-HII.out];exact hok);have HD:=Lib.hid hd;clear hd;go_wp2;refine bodyPost_ret (v:=.tuple #[.agg #[.int .u64 gen,.slice va L.length vc],.nilIface]) (by simp[results,Tryz.results94,go_sem,xc0,xc1]) rfl ⟨(gen:Int),_,_,rfl,?_,Or.inr ⟨gen,L,?_,rfl,rfl,?_⟩⟩
       ·repeat' refine Ext.setN ?_ (by simp)
        exact HXE.out
       ·rw[HD.out,HGEN.out,HLL.out]
       ·exact hOe
     ·have hcr':=HNE.out.1 hcr;have hd:readMan l=none:=Y1 (a7f (by rw[<-HM1.out];exact hcr));go_wp2;refine bodyPost_ret (v:=.tuple #[.agg #[.int .u64 0,.slice none 0 0],Y5 6]) (by simp[results,Tryz.results94,go_sem,xc0,xc1,Y5]) rfl ⟨0,_,_,rfl,?_,Or.inl ⟨hd,rfl,rfl,rfl⟩⟩;repeat' refine Ext.setN ?_ (by simp)
      exact HX.out
end
section
open Go.RowKit Go.Lib
def a5o(F:Value->Prop)(w:World)(v:Value):Prop:=∀g c e fr,v.ownBlock=some g->w.heap[g]?=some (.cells c e fr)->∀x∈c,F x
def isByte(x:Value):Prop:=∃k:Int,x=.int .u8 k
abbrev a18(w:World)(v:Value):Prop:=a5o isByte w v
theorem a18.nil(w:World)(n c:Nat):a18 w (.slice none n c):=fun g c e fr h=>by cases h
theorem a5o.keep{F:Value->Prop}{w w':World}{v:Value}(h:a5o F w v)(he:∀g,v.ownBlock=some g->w'.heap[g]?=w.heap[g]?):a5o F w' v:=fun g c e fr hg hc=>h g c e fr hg ((he g hg)▸hc)
theorem a8l(l:List UInt8):∀x∈l.map byteV,isByte x:=by
 intro x hx;obtain⟨b,_,rfl⟩:=List.mem_map.1 hx;exact⟨_,rfl⟩
theorem a4F{F:Value->Prop}{z:Array Value}(h:∀x∈z,F x)(n:Nat):∀x∈Builtin.zeroCells z n,F x:=by
 intro x hx;unfold Builtin.zeroCells at hx;obtain⟨i,hi,rfl⟩:=Array.mem_map.1 hx;have h0:0<z.size:=by
  rcases Nat.eq_zero_or_pos z.size with h|h
  ·rw[h] at hi;simp at hi
  ·exact h
 have hlt:i%z.size<z.size:=Nat.mod_lt _ h0;rw[getElem!_pos z (i%z.size) hlt];exact h _ (Array.getElem_mem hlt)
theorem a7y{P:Program}{F:Value->Prop}(w:World)(base:Nat)(t ty e:TypeId)(i:TypeInfo)(z:Value)(size bytes:Nat)(ht:P.underlying t=some (.slice e))(hi:P.info? e=some i)(hz:i.zero=some z)
 (hsize:i.size=size)(hby:i.bytes=bytes)(hzs:z.cells.size=size)(hsz:0<size)
 (v:Value)(n:Nat)(xs:List Value)(hown:w.ownsRow base e size v n xs)(x:Value)(m:Nat)(news:List Value)(hx:a0k w x m news)(hl:news.length=m*size)(h1:∀u∈news,u.oneCell'=true)
 (h63:n+m<=maxLen)(hbytes:(n+m)*bytes<=140737488355328)(Fz:∀x∈z.cells,F x)(Fn:∀x∈news,F x)(Fo:a5o F w v){v':Value}{w':World}(hr:(Builtin.append_ #[t,t] ty #[v,x]).run P w=.ok v' w'):a5o F w' v':=by
 subst hsize;subst hby;have hsmall:n+m<=9223372036854775807:=by simp only[maxLen] at h63;omega
 obtain⟨a,c,rfl,hc1,⟨hc2,hc3⟩,hc⟩:=hx
 cases a with
 | none=>
  obtain rfl:=hc3 rfl;obtain rfl:m=0:=by omega
  rw[run_append_owned_none (P:=P) (w:=w) base t ty e i i.size ht hi v n xs hown] at hr;injection hr with e1 e2;subst e1;subst e2
  exact Fo
 | some ad=>
  have hcell:∀j u,news[j]?=some u->w.cell? (ad.add j)=some u:=by
   intro j u hu;obtain⟨b,hb,hcc⟩:=hc (by intro e;subst e;simp at hu);injection hb with hb;subst hb;exact hcc j u hu
  rcases hown.2 with⟨rfl,rfl⟩|⟨g,cap,cur,rfl,hbg,hg,hnc,hcm,hcs,htake⟩
  ·by_cases hm:m=0
   ·subst hm;have hn:news=[]:=List.eq_nil_of_length_eq_zero (by simpa using hl);subst hn;have e0:(Builtin.append_ #[t,t] ty #[.slice none 0 0,.slice (some ad) 0 c]).run P w=.ok (.slice none 0 0) w:=by
     simp[Builtin.append_,run_underlying ht,sizeOf,typeInfo,hi,Builtin.lenOf,Builtin.firstCells,loadCells,loadCellsFrom]
    rw[e0] at hr;injection hr with e1 e2;subst e1;exact fun g c e fr h=>by cases h
   ·have e0:=run_append_nil (P:=P) w t ty e i z ht hi hz ad m c news hl hcell (by omega) (by omega) (by have hb:=hbytes;simp only[Nat.zero_add] at hb;omega);rw[e0] at hr;injection hr with e1 e2;subst e1;subst e2;intro g c e' fr hg' hc' y hy;obtain rfl:w.heap.size=g:=by simpa [Value.ownBlock] using hg'
    rw[show(w.drew.alloc (.cells (news.toArray++Builtin.zeroCells z.cells (grownCap w m 0 e - m)) e)).heap[w.heap.size]?=some (.cells (news.toArray++Builtin.zeroCells z.cells (grownCap w m 0 e - m)) e) from heap_alloc_new w.drew _] at hc';injection hc' with hc';injection hc' with e1 e2 e3;subst e1;rcases Array.mem_append.1 hy with h|h
    ·exact Fn y (by simpa using h)
    ·exact a4F Fz _ y h
  ·have Fc:∀x∈cur,F x:=Fo g cur e (0,0) rfl hg;by_cases hroom:n+m<=cap
   ·have hfit:n*i.size+news.length<=cur.size:=by rw[hl,hcs,<-Nat.add_mul];exact Nat.mul_le_mul_right _ hroom
    have e0:=run_append_room (P:=P) w t ty e i ht hi g n cap cur hg ad m c news hl hcell h1 hroom hfit;rw[e0] at hr;injection hr with e1 e2;subst e1;subst e2;intro g' c e' fr hg' hc' y hy;obtain rfl:g=g':=by simpa [Value.ownBlock] using hg'
    rw[setRow_heap w g cur _ e _ hg] at hc';injection hc' with hc';injection hc' with e1 e2 e3;subst e1;have hy':y∈cur.toList.take (n*i.size)++news++cur.toList.drop (n*i.size+news.length):=by simpa using hy
    rcases List.mem_append.1 hy' with h|h
    ·rcases List.mem_append.1 h with h|h
     ·exact Fc y (by simpa using List.mem_of_mem_take h)
     ·exact Fn y h
    ·exact Fc y (by simpa using List.mem_of_mem_drop h)
   ·have holds:∀j u,xs[j]?=some u->w.cell? ((⟨g,0,none⟩:Addr).add j)=some u:=hown.cells (g:=g) rfl;have e0:=run_append_grow (P:=P) w t ty e i z ht hi hz ⟨g,0,none⟩ n cap xs hown.1 holds ad m c news hl hcell (by omega) (by omega) (growslice_fits (by omega) hbytes);rw[e0] at hr;injection hr with e1 e2;subst e1;subst e2;intro g' c e' fr hg' hc' y hy;obtain rfl:w.heap.size=g':=by simpa [Value.ownBlock] using hg'
    rw[show ∀o,(w.drew.alloc o).heap[w.heap.size]?=some o from fun o=>heap_alloc_new w.drew _] at hc';injection hc' with hc';injection hc' with e1 e2 e3;subst e1;rcases Array.mem_append.1 hy with h|h
    ·rcases Array.mem_append.1 h with h|h
     ·have:y∈cur.toList.take (n*i.size):=by rw[htake];simpa using h
      exact Fc y (by simpa using List.mem_of_mem_take this)
     ·exact Fn y (by simpa using h)
    ·exact a4F Fz _ y h
theorem a0e{P:Program}{F:Value->Prop}{w:World}{ops:Array Oper}{rest:List Oper}{o:Oper}{a:Act}{Q:Exit->Act->World->Prop}(hgd:o.guard=none)(s x:Operand)(t:TypeId)
 (ho:o.op=.call {callee:=.builtin .append,args:=#[s,x],argTypes:=#[t,t]})
 (base:Nat)(e:TypeId)(i:TypeInfo)(z:Value)(size bytes:Nat)(ht:P.underlying t=some (.slice e))(hi:P.info? e=some i)(hz:i.zero=some z)
 (hsize:i.size=size)(hby:i.bytes=bytes)(hzs:z.cells.size=size)(hsz:0<size)
 (v:Value)(n:Nat)(xs:List Value)(hs:a.eval s=v)(hown:w.ownsRow base e size v n xs)(y:Value)(m:Nat)(news:List Value)(hy:a.eval x=y)(hx:a0k w y m news)(hl:news.length=m*size)(h1:∀u∈news,u.oneCell'=true)
 (h63:n+m<=maxLen)(hbytes:(n+m)*bytes<=140737488355328)(hbase:base<=w.heap.size)(Fz:∀x∈z.cells,F x)(Fn:∀x∈news,F x)(Fo:a5o F w v)
 (h:∀b c w',w'.ownsRow base e size (.slice b (n+m) c) (n+m) (xs++news)->w.grownBy w' v.ownBlock->((Value.slice b (n+m) c).ownBlock=v.ownBlock\/(Value.slice b (n+m) c).ownBlock=some w.heap.size)->a5o F w' (.slice b (n+m) c)->wpList P ops Q rest (a.put o.dst (.slice b (n+m) c)) w'):
 wpList P ops Q (o::rest) a w:=by
 refine wpList_plain hgd fun K hK=>?_;obtain⟨v',w',hrun,h2,h3,h4⟩:=a3Q (P:=P) w base t o.type e i z size bytes ht hi hz hsize hby hzs hsz v n xs hown y m news hx hl h1 h63 hbytes hbase;have h5:=a7y (P:=P) w base t o.type e i z size bytes ht hi hz hsize hby hzs hsz v n xs hown y m news hx hl h1 h63 hbytes Fz Fn Fo hrun;obtain⟨b,c,rfl⟩:=ownsRow_form h2;unfold Oper.wp execOp;simp only[ho,resolve,invoke,builtin,Sem.run_bind,Sem.run_pure,Result.andThen_ok,List.map_toArray,List.map_cons,List.map_nil,hs,hy,hrun];exact hK _ _ (h b c w' h2 h3 h4 h5)
end
section
open Go.RowKit Go.Lib Go.Maps Dk
def strV(l:Nm):Value:=.string ⟨l.toArray⟩
def y8(x:Nat):Value:=.pointer (some ⟨x,0,none⟩)
theorem a3M(x y:Nm)(h:strV x=strV y):x=y:=by
 unfold strV at h;injection h with h;injection h with h;have:=congrArg Array.toList h;simpa using this
theorem a3N:Keyed Tryz.prog 9:=string_keyed Tryz.underlying9
theorem a8i{l:Nm}(h:l.length<=maxLen):keyOf Tryz.prog 9 (strV l)=some (.string l):=by
 have hs:(⟨l.toArray⟩:ByteArray).size<=maxLen:=by
  show l.toArray.size<=maxLen;simpa using h
 simp[keyOf,mapKey,Tryz.underlying9,strV,hs]
def a4S:Option Nat->Value
 | none=>.pointer none
 | some x=>y8 x
def moveCells(m:Mv):List Value:=[strV m.1,a4S m.2]
def a0z(w:World)(g:Nat)(l:List Mv):Prop:=o7 w g 251 (l.flatMap moveCells).toArray
def mvV(g:Nat)(l:List Mv):Value:=.slice (some ⟨g,0,none⟩) l.length l.length
def a6f(gs:List Nat)(x:Value):Prop:=x=.slice none 0 0\/∃g n,g∈gs/\x=.slice (some ⟨g,0,none⟩) n n
abbrev a3B(w:World)(r:Nat)(l:List (Nm×Nat)):Prop:=MapOf Tryz.prog 9 strV y8 w r l
structure DiskRep(w:World)(F:Nat->Prop)(a m1 m2:Nat)(mv:Value)(gs:List Nat)(dv:Nat->Value)(d:D):Prop where
 box:o7 w a 174 #[.map (some m1),.map (some m2),mv,.int .i64 d.room,.int .i64 d.wait,.int .i64 d.bad]
 now:a3B w m1 d.now
 safe:a3B w m2 d.safe
 ne:m1≠m2
 rows:gs.length=d.moves.length/\∀(i:Nat)(g:Nat)(l:List Mv),gs[i]?=some g->d.moves[i]?=some l->a0z w g l
 outer:w.ownsRow 0 187 1 mv d.moves.length ((gs.zip d.moves).map fun p=>mvV p.1 p.2)
 file:∀x∈d.ids,o7 w x 176 #[dv x,.int .i64 (d.node x).safe]/\OwnB w 0 (dv x) (d.node x).data
 apart:∀x∈d.ids,∀y∈d.ids,x≠y->∀b,(dv x).ownBlock=some b->(dv y).ownBlock≠some b
 fa:F a
 fm:F m1/\F m2
 fg:∀g∈gs,F g
 fo:∀b,mv.ownBlock=some b->F b
 fx:∀x∈d.ids,F x/\∀b,(dv x).ownBlock=some b->F b
 outf:a5o (a6f gs) w mv
 flat:∀x∈d.ids,a18 w (dv x)
 low:∀b,F b->b<w.heap.size
 wf:d.Wf
 num:d.wait<=9223372036854775807/\d.bad<=9223372036854775807/\-4611686018427387904<=d.room/\d.room<=4611686018427387904
def A8(w:World)(F:Nat->Prop)(a:Nat)(d:D):Prop:=∃m1 m2 mv gs dv,DiskRep w F a m1 m2 mv gs dv d
section
variable{w w':World}{F:Nat->Prop}{a m1 m2:Nat}{mv:Value}{gs:List Nat}{dv:Nat->Value}{d:D}
theorem DiskRep.frame(h:DiskRep w F a m1 m2 mv gs dv d)(hk:∀b,F b->w'.heap[b]?=w.heap[b]?)(hs:w.heap.size<=w'.heap.size):DiskRep w' F a m1 m2 mv gs dv d where
 box:=(hk a h.fa).trans h.box
 now:=h.now.block (hk _ h.fm.1)
 safe:=h.safe.block (hk _ h.fm.2)
 ne:=h.ne
 rows:=⟨h.rows.1,fun i g l hg hl=>(hk g (h.fg g (List.mem_of_getElem? hg))).trans (h.rows.2 i g l hg hl)⟩
 outer:=Dep.row h.outer w' fun b hb=>hk b (h.fo b hb)
 file:=fun x hx=>⟨(hk x (h.fx x hx).1).trans (h.file x hx).1,Dep.row (h.file x hx).2 w' fun b hb=>hk b ((h.fx x hx).2 b hb)⟩
 apart:=h.apart
 fa:=h.fa
 fm:=h.fm
 fg:=h.fg
 fo:=h.fo
 fx:=h.fx
 outf:=h.outf.keep fun b hb=>hk b (h.fo b hb)
 flat:=fun x hx=>(h.flat x hx).keep fun b hb=>hk b ((h.fx x hx).2 b hb)
 low:=fun b hb=>Nat.lt_of_lt_of_le (h.low b hb) hs
 wf:=h.wf
 num:=h.num
theorem DiskRep.ext(h:DiskRep w F a m1 m2 mv gs dv d)(hE:Ext w w'):DiskRep w' F a m1 m2 mv gs dv d:=h.frame (fun b hb=>hE.block b (h.low b hb)) hE.size
theorem A8.ext(h:A8 w F a d)(hE:Ext w w'):A8 w' F a d:=by
 obtain⟨m1,m2,mv,gs,dv,h⟩:=h;exact⟨m1,m2,mv,gs,dv,h.ext hE⟩
theorem A8.frame(h:A8 w F a d)(hk:∀b,F b->w'.heap[b]?=w.heap[b]?)(hs:w.heap.size<=w'.heap.size):A8 w' F a d:=by
 obtain⟨m1,m2,mv,gs,dv,h⟩:=h;exact⟨m1,m2,mv,gs,dv,h.frame hk hs⟩
theorem A8.low(h:A8 w F a d):∀b,F b->b<w.heap.size:=by
 obtain⟨m1,m2,mv,gs,dv,h⟩:=h;exact h.low
theorem A8.wf(h:A8 w F a d):d.Wf:=by
 obtain⟨m1,m2,mv,gs,dv,h⟩:=h;exact h.wf
theorem DiskRep.more(h:DiskRep w F a m1 m2 mv gs dv d){G:Nat->Prop}(hF:∀b,F b->G b)(hG:∀b,G b->b<w.heap.size):DiskRep w G a m1 m2 mv gs dv d:=
 {h with fa:=hF _ h.fa,fm:=⟨hF _ h.fm.1,hF _ h.fm.2⟩,fg:=fun g hg=>hF _ (h.fg g hg),fo:=fun b hb=>hF _ (h.fo b hb),fx:=fun x hx=>⟨hF _ (h.fx x hx).1,fun b hb=>hF _ ((h.fx x hx).2 b hb)⟩,low:=hG}
theorem DiskRep.map_ne(h:DiskRep w F a m1 m2 mv gs dv d){n:Nat}{t:TypeId}{cs:Array Value}(hb:o7 w n t cs):m1≠n/\m2≠n:=by
 constructor
 ·rintro rfl;obtain⟨es,c,h1,_⟩:=h.now;unfold o7 at hb;rw[h1] at hb;cases hb
 ·rintro rfl;obtain⟨es,c,h1,_⟩:=h.safe;unfold o7 at hb;rw[h1] at hb;cases hb
theorem Q5{e:TypeId}{size:Nat}{v:Value}{n:Nat}{xs:List Value}{α β:Type}{k:TypeId}{kf:α->Value}{vf:β->Value}{P:Program}{r:Nat}{l:List (α×β)}{B:Nat}(h:w.ownsRow B e size v n xs)(hm:MapOf P k kf vf w r l):v.ownBlock≠some r:=by
 intro hv;obtain⟨es,c,h1,_⟩:=hm;rcases h.2 with⟨rfl,_⟩|⟨g,cap,cur,rfl,hg,hh,_⟩
 ·cases hv
 ·simp[Value.ownBlock] at hv;subst hv;rw[h1] at hh;cases hh
theorem a3i{n1 n2:Nat}{t1 t2:TypeId}{c1 c2:Array Value}(h1:o7 w n1 t1 c1)(h2:o7 w n2 t2 c2)(ht:t1≠t2):n1≠n2:=by
 rintro rfl;unfold o7 at h1 h2;rw[h1] at h2;injection h2 with h2;injection h2 with _ h2 _;exact ht h2
theorem F9{e t:TypeId}{size:Nat}{v:Value}{n m:Nat}{xs:List Value}{B:Nat}{cs:Array Value}(h:w.ownsRow B e size v n xs)(hb:o7 w m t cs)(ht:t≠e):v.ownBlock≠some m:=ownsRow_ne h hb ht
theorem DiskRep.box'(h:DiskRep w F a m1 m2 mv gs dv d)(hO:Off a w w'){d':D}(hb:o7 w' a 174 #[.map (some m1),.map (some m2),mv,.int .i64 d'.room,.int .i64 d'.wait,.int .i64 d'.bad])
 (e1:d'.now=d.now)(e2:d'.safe=d.safe)(e3:d'.moves=d.moves)(e4:d'.ids=d.ids)(e5:d'.node=d.node)(hn:d'.wait<=9223372036854775807/\d'.bad<=9223372036854775807/\-4611686018427387904<=d'.room/\d'.room<=4611686018427387904):DiskRep w' F a m1 m2 mv gs dv d' where
 box:=hb
 now:=by rw[e1];exact h.now.off hO (h.map_ne h.box).1
 safe:=by rw[e2];exact h.safe.off hO (h.map_ne h.box).2
 ne:=h.ne
 rows:=by
  rw[e3];exact⟨h.rows.1,fun i g l hg hl=>(hO.block g (a3i (h.rows.2 i g l hg hl) h.box (by decide))).trans (h.rows.2 i g l hg hl)⟩
 outer:=by
  rw[e3];exact Dep.row h.outer w' fun b hb'=>hO.block b (fun e=>F9 h.outer h.box (by decide) (e▸hb'))
 file:=by
  rw[e4,e5];exact fun x hx=>⟨(hO.block x (a3i (h.file x hx).1 h.box (by decide))).trans (h.file x hx).1,Dep.row (h.file x hx).2 w' fun b hb'=>hO.block b (fun e=>F9 (h.file x hx).2 h.box (by decide) (e▸hb'))⟩
 apart:=by rw[e4];exact h.apart
 fa:=h.fa
 fm:=h.fm
 fg:=h.fg
 fo:=h.fo
 fx:=by rw[e4];exact h.fx
 outf:=h.outf.keep fun b hb'=>hO.block b (fun e=>F9 h.outer h.box (by decide) (e▸hb'))
 flat:=by
  rw[e4];exact fun x hx=>(h.flat x hx).keep fun b hb'=>hO.block b (fun e=>F9 (h.file x hx).2 h.box (by decide) (e▸hb'))
 low:=fun b hb=>by rw[hO.size];exact h.low b hb
 wf:=by
  obtain⟨h1,h2,h3,h4,h5⟩:=h.wf;exact⟨by rw[e1,e4];exact h1,by rw[e2,e4];exact h2,by rw[e3,e4];exact h3,by rw[e4,e5];exact h4,by rw[e4];exact h5⟩
 num:=hn
end
end
end Go.Proofs.YtgpbhjjajpbeeaaGreatDoor
