/- A part of what the last file proves. -/
import Derived.Test.YtgpbhjjajpbeeaaGreatDoorO10
import Derived.Maps.OwnOps
import Derived.Maps.Views
import Derived.StringKeys
set_option linter.all false
set_option maxRecDepth 100000
set_option maxHeartbeats 2000000
open Go.Proofs.Tryz
namespace Go.Proofs.YtgpbhjjajpbeeaaGreatDoor
section
open Go.RowKit Go.Lib Go.Maps
section
variable{α β:Type}{P:Program}{k:TypeId}{kf:α->Value}{vf:β->Value}{w:World}{r i:Nat}{l vis:List (α×β)}
theorem nodup_lt_length:∀(n:Nat)(js:List Nat),js.Nodup->(∀j∈js,j<n)->js.length<=n:=by
 intro n
 induction n with
 | zero=>
  intro js _ h
  cases js with
  | nil=>simp
  | cons j js=>exact absurd (h j (by simp)) (by omega)
 | succ n ih=>
  intro js hn h;by_cases hm:n∈js
  ·have h1:=ih (js.erase n) (hn.erase n) (λj hj=>by
    have h2:=(List.Nodup.mem_erase_iff hn).1 hj;have:=h j h2.2;have:=h2.1;omega)
   rw[List.length_erase_of_mem hm] at h1;omega
  ·have:=ih js hn (λj hj=>by
    have:=h j hj;have:j≠n:=λe=>hm (e▸hj);omega)
   omega
def U4(P:Program)(k:TypeId)(kf:α->Value)(vf:β->Value)(w:World)(i r:Nat)(l vis:List (α×β)):Prop:=
 ∃(es:Array MapEntry)(clock:Nat)(seen:Array Nat)(js:List Nat),w.heap[r]?=some (.map es clock)/\w.heap[i]?=some (.mapIter (some r) clock seen clock)/\
  es.toList.map (λe=>(e.key,e.val))=l.map (λp=>(kf p.1,vf p.2))/\(∀e∈es.toList,e.born<clock)/\(es.toList.map (·.born)).Nodup/\
  js.Nodup/\(∀j∈js,j<es.size)/\seen.toList=js.map (λj=>(es[j]?.map (·.born)).getD 0)/\vis.map some=js.map (λj=>l[j]?)
theorem U4.lt(h:U4 P k kf vf w i r l vis):i<w.heap.size/\r<w.heap.size/\i≠r:=by
 obtain⟨es,clock,seen,js,h1,h2,_⟩:=h;refine⟨?_,?_,?_⟩
 ·rcases aX i w.heap.size with h|h
  ·exact h
  ·rw[aW h] at h2;cases h2
 ·rcases aX r w.heap.size with h|h
  ·exact h
  ·rw[aW h] at h1;cases h1
 ·rintro rfl;rw[h1] at h2;injection h2 with h2;cases h2
theorem U4.block{w':World}(h:U4 P k kf vf w i r l vis)(hi:w'.heap[i]?=w.heap[i]?)(hr:w'.heap[r]?=w.heap[r]?):U4 P k kf vf w' i r l vis:=by
 obtain⟨es,clock,seen,js,h1,h2,h3⟩:=h;exact⟨es,clock,seen,js,hr.trans h1,hi.trans h2,h3⟩
theorem U4.length(h:U4 P k kf vf w i r l vis):vis.length<=l.length:=by
 obtain⟨es,clock,seen,js,h1,h2,h3,h4,h5,h6,h7,h8,h9⟩:=h;have e1:vis.length=js.length:=by simpa using congrArg List.length h9
 have e2:es.size=l.length:=by simpa using congrArg List.length h3
 rw[e1,<-e2];exact nodup_lt_length _ _ h6 h7
theorem U4.mem(h:U4 P k kf vf w i r l vis):∀p∈vis,p∈l:=by
 obtain⟨es,clock,seen,js,h1,h2,h3,h4,h5,h6,h7,h8,h9⟩:=h;intro p hp;have:some p∈js.map (λj=>l[j]?):=by rw[<-h9];exact bg.2 ⟨p,hp,rfl⟩
 obtain⟨j,_,hj⟩:=bg.1 this;exact aJ hj
def TD(w:World)(i:Nat):Nat:=match w.heap[i]? with|some (.mapIter _ _ seen _)=>seen.size|_=>0
theorem U4.seen(h:U4 P k kf vf w i r l vis):TD w i=vis.length:=by
 obtain⟨es,clock,seen,js,h1,h2,h3,h4,h5,h6,h7,h8,h9⟩:=h;have e1:vis.length=js.length:=by simpa using congrArg List.length h9
 have e2:seen.size=js.length:=by rw[<-kX,h8,b_]
 unfold TD;rw[h2,e1];exact e2
theorem MapOf.range(h:MapOf P k kf vf w r l){t e:TypeId}(ht:P.underlying t=some (.map k e)):
 ∃w',(Instr.range t (.map (some r))).run P w=.ok (.pointer (some ⟨w.heap.size,0,none⟩)) w'/\U4 P k kf vf w' w.heap.size r l []/\Ext w w'/\w'.heap.size=w.heap.size+1:=by
 have hlt:=h.lt;obtain⟨es,clock,hb,h2,h3,h4,h5,h6⟩:=h;refine⟨_,run_range_map w t k e r es clock ht hb,?_,(Ext.refl w).new _,by simp⟩;exact⟨es,clock,#[],[],by rw[heap_alloc_old w _ hlt];exact hb,heap_alloc_new w _,h2,h3,h4,Ig,by simp,rfl,rfl⟩
theorem U4.next(h:U4 P k kf vf w i r l vis)(ty:TypeId):
 (∃p w',(Instr.next (.pointer (some ⟨i,0,none⟩)) false ty).run P w=.ok (.tuple #[.bool true,kf p.1,vf p.2]) w'/\p∈l/\U4 P k kf vf w' i r l (vis++[p])/\Off i w w'/\
   (Instr.entry (.pointer (some ⟨i,0,none⟩))).run P w'=.ok (.tuple #[kf p.1,vf p.2]) w'/\vis.length<l.length) ∨
 ((Instr.next (.pointer (some ⟨i,0,none⟩)) false ty).run P w=.ok (.tuple #[.bool false]) w/\vis.Perm l):=by
 have hl:=h.lt;obtain⟨es,clock,seen,js,h1,h2,h3,h4,h5,h6,h7,h8,h9⟩:=h;have gi:(getObj i).run P w=.ok (.mapIter (some r) clock seen clock) w:=by simp[getObj,Sem.run,h2]
 have gr:(getObj r).run P w=.ok (.map es clock) w:=MapKept.run_getObj_map h1;have DN:(!seen.isEmpty&&!es.isEmpty&&es.all (λx=>decide (x.born ≥ clock)))=false:=next_test_false seen es clock clock h4 (aj _);have hold:((leftOf es seen).filter λx=>decide (x.born<clock))=leftOf es seen:=by
  rw[Array.filter_eq_self];intro x hx;have:=h4 x (mem_left (Array.mem_toList_iff.2 hx)).1;simpa using this
 have hnew:((leftOf es seen).filter λx=>decide (x.born ≥ clock))=#[]:=by
  rw[Array.filter_eq_empty_iff];intro x hx;have:=h4 x (mem_left (Array.mem_toList_iff.2 hx)).1;simp;omega
 have tt:es.size=l.length:=by simpa using congrArg List.length h3
 by_cases h0:(leftOf es seen).size=0
 ·refine .inr ⟨?_,?_⟩
  ·have he:leftOf es seen=#[]:=Array.eq_empty_of_size_eq_zero h0;have he':(es.filter λe=>!seen.contains e.born)=#[]:=he;simp only[Instr.next,Sem.run_bind,gi,gr,Result.andThen_ok,DN,he'];simp[choose,Sem.run,Question.forced]
  ·have hall:=all_seen es seen h0;have hjs:js.Perm (List.range es.size):=by
    refine(jl h6 List.nodup_range).2 λj=>⟨λhj=>fV.2 (h7 j hj),λhj=>?_⟩;have hj':=fV.1 hj;have hm:es[j]∈es.toList:=by simp
    have hc:=hall es[j] hm;have hmem:es[j].born∈seen.toList:=by simpa using hc
    rw[h8] at hmem;obtain⟨j',hj1,hj2⟩:=bg.1 hmem;have hj3:=h7 j' hj1;rw[bK hj3] at hj2;simp only[dH,aP] at hj2;have:j'=j:=by
     have e1:(es.toList.map (·.born))[j']?=some es[j].born:=by simp[hj3,hj2]
     have e2:(es.toList.map (·.born))[j]?=some es[j].born:=by simp[hj']
     exact(List.getElem?_inj (by simpa using hj3) h5).1 (e1.trans e2.symm)
    exact this▸hj1
   have e1:(vis.map some).Perm ((List.range es.size).map λj=>l[j]?):=by rw[h9];exact hjs.map _
   have e2:(List.range es.size).map (λj=>l[j]?)=l.map some:=by
    rw[tt];apply jR;intro j;rw[aZ,aZ];by_cases hj:j<l.length
    ·rw[List.getElem?_range hj];simp[hj]
    ·rw[dK (by simpa using hj),dK (by omega)];rfl
   rw[e2] at e1;have:=e1.filterMap id;simpa using this
 ·refine .inl ?_;generalize hL:leftOf es seen=L at *;have hL':(es.filter λe=>!seen.contains e.born)=L:=hL;have hch:∃(j:Nat)(w1:World),j<L.size/\w1.heap=w.heap/\w1.os=w.os/\w1.tape=w.tape/\w1.output=w.output/\(choose (Question.mapNext L.size)).run P w=.ok j w1:=by
   by_cases hf:L.size<=1
   ·exact⟨0,w,by omega,rfl,rfl,rfl,rfl,by simp[choose,Sem.run,Question.forced,hf]⟩
   ·exact⟨_,w.drew,Nat.mod_lt _ (by omega),rfl,rfl,rfl,rfl,by
     simp only[choose,Sem.run,Question.forced,dQ,hf,if_false,Question.cut];rfl⟩
  obtain⟨j,w1,hj,hh1,hh2,hh3,hh4,hrun⟩:=hch;have hne:L.isEmpty=false:=by simp[Array.isEmpty,h0]
  have hme:L[j]∈(leftOf es seen).toList:=by rw[hL];simp
  obtain⟨hmem,jM⟩:=mem_left hme;obtain⟨jj,hjj⟩:=gV.1 hmem;obtain⟨p,hp,hk,hv⟩:=Zo h3 hjj;have hjlt:jj<es.size:=by have:=(aT.1 hjj).1;simpa using this
  have NJ:es[jj]?=some L[j]:=by simpa using hjj
  have hnot:jj∉js:=by
   intro hin;have:L[j].born∈seen.toList:=by
    rw[h8];exact bg.2 ⟨jj,hin,by rw[NJ];rfl⟩
   have:seen.contains L[j].born=true:=by simpa using this
   rw[this] at jM;cases jM
  have hl1:i<w1.heap.size:=by rw[hh1];exact hl.1
  have hset:∀o':Obj,(setObj i o').run P w1=.ok () {w1 with heap:=w1.heap.setIfInBounds i o'}:=λo'=>by
   have h2':w1.heap[i]?=some (.mapIter (some r) clock seen clock):=by rw[hh1];exact h2
   simp[setObj,Sem.run,h2']
  have FM:(Instr.next (.pointer (some ⟨i,0,none⟩)) false ty).run P w=.ok (.tuple #[.bool true,kf p.1,vf p.2]) {w1 with heap:=w1.heap.setIfInBounds i (.mapIter (some r) clock (seen.push L[j].born) clock)}:=by
   simp only[Instr.next,Sem.run_bind,gi,gr,Result.andThen_ok,DN,hL',hold,hnew,hne,cu,if_false,gQ,uz,Array.size_map,hrun,lT,bK hj,dH,hset];rw[<-hk,<-hv];rfl
  have hgi':({w1 with heap:=w1.heap.setIfInBounds i (.mapIter (some r) clock (seen.push L[j].born) clock)}:World).heap[i]?=some (.mapIter (some r) clock (seen.push L[j].born) clock):=Qq hl1 _;have NQ:({w1 with heap:=w1.heap.setIfInBounds i (.mapIter (some r) clock (seen.push L[j].born) clock)}:World).heap[r]?=some (.map es clock):=by
   show(w1.heap.setIfInBounds i _)[r]?=_;rw[aK hl.2.2,hh1];exact h1
  have hlen:vis.length<l.length:=by
   have e1:vis.length=js.length:=by simpa using congrArg List.length h9
   have:=nodup_lt_length es.size (js++[jj]) (by
    rw[iq];exact⟨h6,by simp,λa ha b hb=>by simp at hb;subst hb;exactλe=>hnot (e▸ha)⟩) (by
    intro a ha;rcases aU.1 ha with h|h
    ·exact h7 a h
    ·simp at h;subst h;exact hjlt)
   simp at this;omega
  refine⟨p,_,FM,aJ hp,?_,?_,?_,hlen⟩
  ·refine⟨es,clock,seen.push L[j].born,js++[jj],NQ,hgi',h3,h4,h5,?_,?_,?_,?_⟩
   ·rw[iq];exact⟨h6,by simp,λa ha b hb=>by simp at hb;subst hb;exactλe=>hnot (e▸ha)⟩
   ·intro a ha;rcases aU.1 ha with h|h
    ·exact h7 a h
    ·simp at h;subst h;exact hjlt
   ·rw[wW,h8,bY,aB,dJ,NJ];rfl
   ·rw[bY,bY,h9];simp[hp]
  ·refine⟨hh2,hh3,hh4,by simp[hh1],λq hq=>?_⟩;show(w1.heap.setIfInBounds i _)[q]?=_;rw[aK (bP hq),hh1]
  ·have hfind:es.find? (λe=>e.born==L[j].born)=some L[j]:=by
    have:=find_born L[j] es.toList h5 hmem;simpa using this
   simp only[Instr.entry,getObj,Sem.run_bind,Sem.run,hgi',NQ,Result.andThen,Array.back?_push,bne_self_eq_false,cu,if_false,hfind];rw[<-hk,<-hv];rfl
end
end
section
open Go.RowKit Go.Lib
structure fA(F F':Nat->Prop)(w w':World):Prop where
 os:w'.os=w.os
 tape:w'.tape=w.tape
 output:w'.output=w.output
 size:w.heap.size<=w'.heap.size
 block:∀b,b<w.heap.size->¬F b->w'.heap[b]?=w.heap[b]?
 grow:∀b,F' b->F b\/w.heap.size<=b
theorem fA.refl(F:Nat->Prop)(w:World):fA F F w w:=⟨rfl,rfl,rfl,aj _,λ_ _ _=>rfl,λ_ h=>.inl h⟩
theorem fA.trans{F F' jp:Nat->Prop}{a b c:World}(h:fA F F' a b)(k:fA F' jp b c):fA F jp a c:=
 ⟨k.os.trans h.os,k.tape.trans h.tape,k.output.trans h.output,ay h.size k.size,
  λx hx hF=>(k.block x (ak hx h.size) (λhF'=>(h.grow x hF').elim hF (by omega))).trans (h.block x hx hF),
  λx hx=>(k.grow x hx).elim (h.grow x) (λe=>.inr (ay h.size e))⟩
theorem fA.ext{F:Nat->Prop}{w w':World}(h:Ext w w'):fA F F w w':=
 ⟨h.os,h.tape,h.output,h.size,λb hb _=>h.block b hb,λ_ h=>.inl h⟩
theorem fA.off{F:Nat->Prop}{g:Nat}{w w':World}(h:Off g w w')(hg:F g):fA F F w w':=
 ⟨h.os,h.tape,h.output,dS h.size.symm,λb _ hF=>h.block b (λe=>hF (e▸hg)),λ_ h=>.inl h⟩
theorem fA.toExt{F F':Nat->Prop}{w w':World}(h:fA F F' w w')(hF:∀b,F b->w.heap.size<=b):Ext w w':=
 ⟨h.os,h.tape,h.output,h.size,λb hb=>h.block b hb (λhb'=>by have:=hF b hb';omega)⟩
theorem fA.below{F F':Nat->Prop}{w w':World}{B:Nat}(h:fA F F' w w')(hF:∀b,F b->B<=b)(hB:B<=w.heap.size):Below B w w':=
 ⟨h.os,h.tape,h.output,h.size,λb hb=>h.block b (by omega) (λhb'=>by have:=hF b hb';omega)⟩
def iV(S:Nat->Prop)(Φ:World->Prop)(w:World):Prop:=∀w':World,(∀b,S b->w'.heap[b]?=w.heap[b]?)->Φ w'
def Held(w:World)(F:Nat->Prop)(Φ:World->Prop):Prop:=∃S:Nat->Prop,(∀b,S b->b<w.heap.size/\¬F b)/\iV S Φ w
theorem Held.get{w:World}{F:Nat->Prop}{Φ:World->Prop}(h:Held w F Φ):Φ w:=let ⟨_,_,h2⟩:=h;h2 w λ_ _=>rfl
theorem Held.mono{w:World}{F:Nat->Prop}{Φ Ψ:World->Prop}(h:Held w F Φ)(k:∀w,Φ w->Ψ w):Held w F Ψ:=
 let ⟨S,h1,h2⟩:=h;⟨S,h1,λw' hw=>k w' (h2 w' hw)⟩
theorem Held.and{w:World}{F:Nat->Prop}{Φ Ψ:World->Prop}(h:Held w F Φ)(k:Held w F Ψ):Held w F (λw=>Φ w/\Ψ w):=by
 obtain⟨S,h1,h2⟩:=h;obtain⟨T,k1,k2⟩:=k;exact⟨λb=>S b\/T b,λb hb=>hb.elim (h1 b) (k1 b),λw' hw=>⟨h2 w' λb hb=>hw b (.inl hb),k2 w' λb hb=>hw b (.inr hb)⟩⟩
theorem Held.true(w:World)(F:Nat->Prop):Held w F (λ_=>True):=⟨λ_=>False,λ_ h=>h.elim,λ_ _=>trivial⟩
theorem Held.step{w w':World}{F F':Nat->Prop}{Φ:World->Prop}(h:Held w F Φ)(c:fA F F' w w'):Held w' F' Φ:=by
 obtain⟨S,h1,h2⟩:=h;refine⟨S,λb hb=>⟨ak (h1 b hb).1 c.size,λhF=>?_⟩,λw'' hw=>h2 w'' λb hb=>(hw b hb).trans (c.block b (h1 b hb).1 (h1 b hb).2)⟩;rcases c.grow b hF with h|h
 ·exact(h1 b hb).2 h
 ·have:=(h1 b hb).1;omega
theorem Held.ext{w w':World}{F:Nat->Prop}{Φ:World->Prop}(h:Held w F Φ)(hE:Ext w w'):Held w' F Φ:=h.step (fA.ext hE)
theorem Held.of{w:World}{F S:Nat->Prop}{Φ:World->Prop}(h:iV S Φ w)(hS:∀b,S b->b<w.heap.size/\¬F b):Held w F Φ:=⟨S,hS,h⟩
theorem iV.box{w:World}{n:Nat}{t:TypeId}{cs:Array Value}(h:o8 w n t cs):iV (λb=>b=n) (λw=>o8 w n t cs) w:=
 λw' hw=>(hw n rfl).trans h
theorem iV.map{α β:Type}{P:Program}{k:TypeId}{kf:α->Value}{vf:β->Value}{w:World}{r:Nat}{l:List (α×β)}(h:MapOf P k kf vf w r l):iV (λb=>b=r) (λw=>MapOf P k kf vf w r l) w:=
 λw' hw=>h.block (hw r rfl)
theorem iV.row{w:World}{B:Nat}{e:TypeId}{size:Nat}{v:Value}{n:Nat}{xs:List Value}(h:w.ownsRow B e size v n xs):iV (λb=>v.ownBlock=some b) (λw=>w.ownsRow B e size v n xs) w:=by
 intro w' hw;obtain⟨h1,h2⟩:=h;refine⟨h1,?_⟩;rcases h2 with h2|⟨g,cap,cur,rfl,hg,hh,r⟩
 ·exact Or.inl h2
 ·exact Or.inr ⟨g,cap,cur,rfl,hg,(hw g rfl).trans hh,r⟩
theorem iV.ownB{w:World}{B:Nat}{v:Value}{l:List UInt8}(h:OwnB w B v l):iV (λb=>v.ownBlock=some b) (λw=>OwnB w B v l) w:=iV.row h
theorem iV.slice{w:World}{v:Value}{n:Nat}{xs:List Value}(h:uZ w v n xs):iV (λb=>xs≠[]/\∃a n c,v=.slice (some a) n c/\a.block=b) (λw=>uZ w v n xs) w:=by
 intro w' hw;obtain⟨a,cap,rfl,h1,h2,h3⟩:=h;refine⟨a,cap,rfl,h1,h2,λhx=>?_⟩;obtain⟨b,rfl,hc⟩:=h3 hx;refine⟨b,rfl,λi x hi=>?_⟩;have e:(b.add i).block=b.block:=by unfold Addr.add;split<;>rfl
 rw[<-hc i x hi];exact World.cell?_of_block (w:=w) (by rw[e];exact hw b.block ⟨hx,_,_,_,rfl,rfl⟩)
theorem o8.lt{w:World}{n:Nat}{t:TypeId}{cs:Array Value}(h:o8 w n t cs):n<w.heap.size:=lt_of_block h
theorem Ep{w:World}{B:Nat}{e:TypeId}{size:Nat}{v:Value}{n:Nat}{xs:List Value}(h:w.ownsRow B e size v n xs){b:Nat}(hb:v.ownBlock=some b):b<w.heap.size:=(h.lt b hb).2
theorem Held.box{w:World}{F:Nat->Prop}{n:Nat}{t:TypeId}{cs:Array Value}(h:o8 w n t cs)(hF:¬F n):Held w F (λw=>o8 w n t cs):=
 .of (.box h) λb e=>by subst e;exact⟨h.lt,hF⟩
theorem Held.ownB{w:World}{F:Nat->Prop}{B:Nat}{v:Value}{l:List UInt8}(h:OwnB w B v l)(hF:∀b,v.ownBlock=some b->¬F b):Held w F (λw=>OwnB w B v l):=
 .of (.ownB h) λb e=>⟨Ep h e,hF b e⟩
theorem Held.bytes{w:World}{F:Nat->Prop}{v:Value}{l:List UInt8}(h:Bytes w v l)(hF:∀a n c,v=.slice (some a) n c->¬F a.block):Held w F (λw=>Bytes w v l):=by
 refine .of (.slice h) λb⟨hx,a,n,c,hv,hb⟩=>?_;subst hb;refine⟨?_,hF a n c hv⟩;obtain⟨a',cap,hv',h1,h2,h3⟩:=h;obtain⟨b,hb,hc⟩:=h3 hx;rw[hv] at hv';injection hv' with e1;rw[<-e1] at hb;injection hb with hb;subst hb
 cases hl:l.map dX with
 | nil=>exact absurd hl hx
 | cons x xs=>
  have:=World.block_lt_of_cell? w _ (hc 0 x (by rw[hl];rfl));have e:(a.add 0).block=a.block:=by unfold Addr.add;split<;>rfl
  rw[e] at this;exact this
end
section
open Go.RowKit Go.Lib Pl Go.Maps
def inRange(n:Int):Bool:=decide (1<=n)&&decide (n<=999999)
def nC(l:List Int):Bool:=decide (l.length<=60)&&(l.all inRange&&decide l.Nodup)
theorem G_:Keyed prog 3:=int_keyed underlying3
theorem TS(w:World):(zeroValue 3).run prog w=.ok (.int .i64 0) w:=by kernel_rfl
def seen{H:Type}(D:DataW H)(l:List Int)(k:Nat):Prop:=∀x:Int,D.atKey (.int .i64 x) (.lit (.int .i64 0))=.lit (.int .i64 (if x∈l.take k then 1 else 0))
def GZ(l:List Int)(k:Nat):Prop:=(l.take k).all inRange=true/\(l.take k).Nodup
theorem wrap64_small{n:Int}(h1:-1000<=n)(h2:n<=1000):wrap64 n=n:=by unfold wrap64;omega
theorem Ax{H:Type}{D:DataW H}{l:List Int}{k:Nat}{x c c2:Int}(hm:IsMap D)(hs:seen D l k)(hat:D.atKey (.int .i64 x) (.lit (.int .i64 0))=.lit (.int .i64 c))
 (yH:(D.put (.int .i64 x) (.lit (.int .i64 (wrap64 (c+1))))).atKey (.int .i64 x) (.lit (.int .i64 0))=.lit (.int .i64 c2)):
 c=(if x∈l.take k then 1 else 0)/\c2=c+1:=by
 have h1:=(hs x).symm.trans hat;injection h1 with h1;injection h1 with _ h1;rw[atKey_put_same hm (by simp[WideAt.IsKeyLit])] at yH;injection yH with h2;injection h2 with _ h2;refine⟨h1.symm,?_⟩;rw[<-h2];have:c=0\/c=1:=by rw[<-h1];split<;>simp
 rcases this with rfl|rfl
 ·exact wrap64_small (by omega) (by omega)
 ·exact wrap64_small (by omega) (by omega)
theorem b7D{H:Type}{D:DataW H}{l:List Int}{k:Nat}{x:Int}(hm:IsMap D)(hs:seen D l k)(hk:k<l.length)(hx:l[k]=x)(h0:x∉l.take k):
 seen (D.put (.int .i64 x) (.lit (.int .i64 1))) l (k+1):=by
 intro y;rw[take_snoc l k hk,hx];by_cases hy:y=x
 ·subst hy;rw[atKey_put_same hm (by simp[WideAt.IsKeyLit])];simp
 ·rw[atKey_put_other (by intro e;injection e with _ e;exact hy e),hs y];simp[hy]
theorem Vn{l:List Int}{k:Nat}{x:Int}(hg:GZ l k)(hk:k<l.length)(hx:l[k]=x)(hr:inRange x=true)(h0:x∉l.take k):GZ l (k+1):=by
 unfold GZ at *;rw[take_snoc l k hk,hx];refine⟨by simp[hg.1,hr],?_⟩;rw[iq];exact⟨hg.2,by simp,λa ha b hb=>by simp at hb;subst hb;exactλe=>h0 (e▸ha)⟩
theorem UZ{l:List Int}{k:Nat}{x:Int}(hk:k<l.length)(hx:l[k]=x)(hr:inRange x=false):nC l=false:=by
 have:l.all inRange=false:=by
  rw[List.all_eq_false];exact⟨x,hx▸fE hk,by simp[hr]⟩
 unfold nC;rw[this];simp
theorem LS{l:List Int}{k:Nat}{x:Int}(hk:k<l.length)(hx:l[k]=x)(h0:x∈l.take k):nC l=false:=by
 have:¬l.Nodup:=by
  intro hn;have h1:(l.take (k+1)).Nodup:=hn.sublist (wU _ _);rw[take_snoc l k hk,hx,iq] at h1;exact h1.2.2 x h0 x (by simp) rfl
 unfold nC;rw[aI this];simp
theorem b3y{H:Type}(v:Value)(l:List Int)(w:World)(h:Ints w v l)(hw:∀n∈l,(Lit.int .i64 n).wf=true):
 Calls prog 149 #[v] w λe w'=>e=.returned (.bool (nC l))/\Ext w w':=by
 obtain⟨a,cap,rfl,hc,hc',-⟩:=h.open;have HI:=ah h;clear h;have hmm:=@run_makeMap prog;go_enter func149,ntmps149
 go_wp2;go_loopw [9] (λi wr=>∃k:Nat,k<=l.length/\i=.int .i64 k/\GZ l k/\(∃D:DataW H,wr.ownsMap prog 3 (plainElem prog 3) w.heap.size k D/\seen D l k)/\Ext w wr) (λi _=>l.length - (intOf i).toNat)
 case atStart=>exact⟨0,bU _,rfl,⟨rfl,Ig⟩,⟨.map [],World.ownsMap_made _ _ _ _,λx=>by simp[DataW.atKey]⟩,(Ext.refl w).new _⟩
 case round=>
  obtain⟨k,hk,rfl,hg,⟨D,hown,jM⟩,hE⟩:=hrel;by_cases hlt:k<l.length
  ·obtain⟨b,rfl,hb⟩:∃b,a=some b/\wr.cell? (b.add k)=some (.int .i64 (l[k])):=by
    obtain⟨a',c',e,_,_,hf⟩:=(HI.out.ext hE).open;injection e with e1;subst e1;exact hf k hlt
   have hwx:=hw _ (fE hlt);have hkey:keyOf prog 3 (.int .i64 l[k])=some (.int .i64 l[k]):=keyOf_int_mk underlying3 hwx;have HG:=ah hg;have HS:=ah jM;have HE:=ah hE;clear hg jM hE;generalize hx:l[k]=x at *;obtain⟨c,re,hcx⟩:∃c:Int,(c=0\/c=1)/\c=(if x∈l.take k then 1 else 0):=⟨_,by split<;>simp,rfl⟩;by_cases hr:1<=x/\x<=999999
   ·have hr1:¬x<1:=by omega
    have hr2:¬999999<x:=by omega
    go_wp2_with (first|(at_lookup;refine wpList_lookup_own_int _ rfl _ _ 312 rfl 3 3 .i64 G_ underlying312 underlying3 (TS _) w.heap.size _ _ rfl hown _ _ rfl hkey ?_;intro c' hat hwc)|(at_mapUpdate;refine wpList_mapUpdate_own _ rfl _ _ _ 312 rfl 3 3 G_ underlying312 _ w.heap.size k _ rfl hown (by unfold maxLen;omega) _ _ _ rfl rfl hkey _ [] (plainElem_int underlying3 (wrap64_wf _)) ?_;intro w1 hown1 hgrow1;obtain⟨c2,hrun2,yH,ol⟩:=hown1.lookup_int G_ underlying312 underlying3 (TS _) hkey)|go_in)
    ·obtain⟨e1,e2⟩:=Ax hown.isMap HS.out hat yH;have hmem:x∈l.take k:=by
      by_cases hm:x∈l.take k
      ·exact hm
      ·rw[if_neg hm] at e1;omega
     go_ret;exact⟨by rw[LS hlt hx hmem];rfl,HE.out.grown hgrow1 HE.out.size (λj hj=>by cases hj;exact aj _)⟩
    ·obtain⟨e1,e2⟩:=Ax hown.isMap HS.out hat yH;have hmem:x∉l.take k:=by
      intro hm;rw[if_pos hm] at e1;omega
     obtain rfl:c'=0:=by rw[if_neg hmem] at e1;exact e1
     rw[show wrap64 (0+1)=1 from wrap64_small (by omega) (by omega)] at hown1;go_roundw
     case rel=>exact⟨k+1,by omega,by go_num,Vn HG.out hlt hx (by unfold inRange;rw[aG hr.1,aG hr.2];rfl) hmem,⟨_,hown1,b7D hown.isMap HS.out hlt hx hmem⟩,HE.out.grown hgrow1 HE.out.size (λj hj=>by cases hj;exact aj _)⟩
     case measure=>simp[intOf];omega
   ·have hrf:inRange x=false:=by
     unfold inRange;by_cases h1:1<=x
     ·rw[aI (show ¬x<=999999 from λh2=>hr ⟨h1,h2⟩)];simp
     ·rw[aI h1];rfl
    by_cases h1:x<1
    ·go_wp2_with (first|(at_lookup;refine wpList_lookup_own_int _ rfl _ _ 312 rfl 3 3 .i64 G_ underlying312 underlying3 (TS _) w.heap.size _ _ rfl hown _ _ rfl hkey ?_;intro c' hat hwc)|(at_mapUpdate;refine wpList_mapUpdate_own _ rfl _ _ _ 312 rfl 3 3 G_ underlying312 _ w.heap.size k _ rfl hown (by unfold maxLen;omega) _ _ _ rfl rfl hkey _ [] (plainElem_int underlying3 (wrap64_wf _)) ?_;intro w1 hown1 hgrow1)|go_in)
     go_ret;exact⟨by rw[UZ hlt hx hrf];rfl,HE.out.grown hgrow1 HE.out.size (λj hj=>by cases hj;exact aj _)⟩
    ·have h2:999999<x:=by omega
     go_wp2_with (first|(at_lookup;refine wpList_lookup_own_int _ rfl _ _ 312 rfl 3 3 .i64 G_ underlying312 underlying3 (TS _) w.heap.size _ _ rfl hown _ _ rfl hkey ?_;intro c' hat hwc)|(at_mapUpdate;refine wpList_mapUpdate_own _ rfl _ _ _ 312 rfl 3 3 G_ underlying312 _ w.heap.size k _ rfl hown (by unfold maxLen;omega) _ _ _ rfl rfl hkey _ [] (plainElem_int underlying3 (wrap64_wf _)) ?_;intro w1 hown1 hgrow1)|go_in)
     go_ret;exact⟨by rw[UZ hlt hx hrf];rfl,HE.out.grown hgrow1 HE.out.size (λj hj=>by cases hj;exact aj _)⟩
  ·go_wp2;go_ret;obtain rfl:k=l.length:=by omega
   unfold GZ at hg;rw[bG] at hg;refine⟨?_,hE⟩;unfold nC;rw[hg.1,aG hg.2,Bool.and_self,RV];simp;omega
end
section
open Go.RowKit Go.Lib Pl
def zA(l:List Int):List UInt8:=l.flatMap λn=>be n.toNat 4
def Aa(gen:Nat)(l:List Int):List UInt8:=be gen 8++be l.length 2++zA l
theorem b2p(l:List Int)(n:Int):zA (l++[n])=zA l++be n.toNat 4:=by simp[zA]
theorem eo(l:List Int):(zA l).length=4*l.length:=by
 induction l with
 | nil=>rfl
 | cons x l ih=>simp only[zA,iW,aC,I7,bV] at *;omega
end
section
open Go.RowKit Go.Lib Pl
def cnt(l:List UInt8):Nat:=num ((l.drop 12).take 2)
def yZ(l:List UInt8)(i:Nat):Nat:=num ((l.drop (14+4*i)).take 4)
def Y5(l:List UInt8)(k:Nat):List Int:=(List.range k).map λi=>(yZ l i:Int)
def zx(l:List UInt8):Bool:=
 decide (14<=l.length)&&(decide (l.length=14+4*cnt l)&&(decide (crc (l.drop 4)=num (l.take 4))&&nC (Y5 l (cnt l))))
def aV(l:List UInt8):Option (Nat×List Int):=
 if zx l=true then some (num ((l.drop 4).take 8),Y5 l (cnt l)) else none
theorem NA(l:List UInt8)(k:Nat):Y5 l (k+1)=Y5 l k++[(yZ l k:Int)]:=by simp[Y5,List.range_succ]
theorem Ve(l:List UInt8)(k:Nat):(Y5 l k).length=k:=by simp[Y5]
theorem yq(l:List UInt8)(k:Nat):yZ l k<4294967296:=O8 _ 4
theorem cnt_lt(l:List UInt8):cnt l<65536:=O8 _ 2
theorem b33(l:List UInt8)(k:Nat):∀n∈Y5 l k,0<=n/\n<4294967296:=by
 intro n hn;obtain⟨i,_,rfl⟩:=bg.1 hn;have:=yq l i;omega
theorem FA{n:Int}(h:0<=n/\n<4294967296):(Lit.int .i64 n).wf=true:=by
 simp only[Lit.wf,aH,dQ];refine⟨?_,?_⟩
 ·show(-9223372036854775808:Int)<=n;omega
 ·show n<=(9223372036854775807:Int);omega
theorem Y6{l:List UInt8}(h:zx l=false):aV l=none:=by unfold aV;rw[h];rfl
theorem UY{l:List UInt8}(h:l.length<14\/l.length≠14+4*cnt l):zx l=false:=by
 unfold zx;rcases h with h|h
 ·rw[aI (show ¬14<=l.length by omega)];rfl
 ·rw[aI h];simp
theorem R2{l:List UInt8}(h:crc (l.drop 4)≠num (l.take 4)):zx l=false:=by
 unfold zx;rw[aI h];simp
theorem RR{l:List UInt8}(h:nC (Y5 l (cnt l))=false):zx l=false:=by
 unfold zx;rw[h];simp
theorem Wm{l:List UInt8}(h1:14<=l.length)(h2:l.length=14+4*cnt l)(h3:crc (l.drop 4)=num (l.take 4))(h4:nC (Y5 l (cnt l))=true):
 aV l=some (num ((l.drop 4).take 8),Y5 l (cnt l)):=by
 unfold aV zx;rw[aG h1,aG h2,aG h3,h4];rfl
theorem mi{l:List UInt8}{m g n:Nat}{s1 s2 s3:List UInt8×Bool}(e1:(m,s1)=lg (l,false) 4)(e2:(g,s2)=lg s1 8)(e3:(n,s3)=lg s2 2):
 n<65536/\((l.length<14/\n=0/\s3.2=true)\/(14<=l.length/\s3=(l.drop 14,false)/\m=num (l.take 4)/\g=num ((l.drop 4).take 8)/\n=cnt l)):=by
 by_cases h4:l.length<4
 ·rw[Df h4] at e1;injection e1 with _ e1;subst e1;rw[wP] at e2;injection e2 with _ e2;subst e2;rw[wP] at e3;injection e3 with e3' e3;subst e3;subst e3';exact⟨by omega,.inl ⟨by omega,rfl,rfl⟩⟩
 rw[CP (by omega)] at e1;injection e1 with f1 e1;subst e1;by_cases h12:l.length<12
 ·rw[Df (by simp;omega)] at e2;injection e2 with _ e2;subst e2;rw[wP] at e3;injection e3 with e3' e3;subst e3;subst e3';exact⟨by omega,.inl ⟨by omega,rfl,rfl⟩⟩
 rw[CP (by simp;omega)] at e2;injection e2 with f2 e2;subst e2;by_cases BP:l.length<14
 ·rw[Df (by simp;omega)] at e3;injection e3 with e3' e3;subst e3;subst e3';exact⟨by omega,.inl ⟨by omega,rfl,rfl⟩⟩
 rw[CP (by simp;omega)] at e3;injection e3 with e3' e3;simp only[lM,Nat.reduceAdd] at *;refine⟨?_,.inr ⟨by omega,e3,f1,f2,e3'⟩⟩;rw[e3'];exact O8 _ 2
def CB(l:List UInt8)(k:Nat)(s:List UInt8×Bool)(L:List Int):Prop:=
 (s=(l.drop (14+4*k),false)/\14+4*k<=l.length/\L=Y5 l k)\/(s.2=true/\(l.length<14\/l.length<14+4*cnt l))
theorem CB.step{l:List UInt8}{k x:Nat}{s s':List UInt8×Bool}{L:List Int}(h:CB l k s L)(hb:s.2=false)(hk:k<cnt l)(e:(x,s')=lg s 4):x<4294967296/\CB l (k+1) s' (L++[(x:Int)]):=by
 rcases h with⟨rfl,hl,rfl⟩|⟨h,_⟩
 ·by_cases h4:l.length<14+4*k+4
  ·rw[Df (by simp;omega)] at e;injection e with e1 e2;subst e1;subst e2;exact⟨by omega,.inr ⟨rfl,.inr (by omega)⟩⟩
  ·rw[CP (by simp;omega)] at e;injection e with e1 e2;subst e1;subst e2;refine⟨O8 _ 4,.inl ⟨?_,by omega,?_⟩⟩
   ·rw[lM];congr 2
   ·rw[NA];rfl
 ·rw[h] at hb;cases hb
theorem CB.all{l:List UInt8}{s:List UInt8×Bool}{L:List Int}(h:CB l (cnt l) s L)(hb:s.2=false):s.1=l.drop (14+4*cnt l)/\14+4*cnt l<=l.length/\L=Y5 l (cnt l):=by
 rcases h with⟨rfl,h1,h2⟩|⟨h,_⟩
 ·exact⟨rfl,h1,h2⟩
 ·rw[h] at hb;cases hb
theorem CB.bad{l:List UInt8}{k:Nat}{s:List UInt8×Bool}{L:List Int}(h:CB l k s L)(hb:s.2=true):zx l=false:=by
 rcases h with⟨rfl,_⟩|⟨_,h⟩
 ·cases hb
 ·exact UY (by omega)
end
section
open Go.RowKit Go.Lib Pl
def xr(b B:Nat)(l:List UInt8)(w:World)(e:Ending)(w':World):Prop:=e=.returned (.slice none 0 0)/\L6 w' b B l true/\Off b w w'
def wN(b B n:Nat)(l:List UInt8)(w:World)(e:Ending)(w':World):Prop:=∃v,e=.returned v/\X6 w' B v (l.take n)/\L6 w' b B (l.drop n) false/\Off b w w'
theorem c1O(b B n:Nat)(l:List UInt8)(bad:Bool)(w:World)(h:L6 w b B l bad)(hn:bad=true\/l.length<n):
 Calls prog 166 #[.pointer (some ⟨b,0,none⟩),.int .u64 n] w (xr b B l w):=by
 obtain⟨v,hb,hBb,hv⟩:=h;have hfin:xr b B l w (.returned (.slice none 0 0)) (w.setCell ⟨b,1,none⟩ (.bool true)):=by
  have hB:Off b w (w.setCell ⟨b,1,none⟩ (.bool true)):=(Off.refl b w).setCell 1 _;exact⟨rfl,⟨v,E9 hb,hBb,hv.below (hB.below hBb)⟩,hB⟩
 have HF:=ah hfin;clear hfin;obtain⟨hc0,hc1,hf0,hf1⟩:=Kw hb;clear hb;obtain⟨⟨a,cap,rfl,h1,h2,h3⟩,h4⟩:=hv;have hwl:IntKind.u64.wrap (l.length:Int)=(l.length:Int):=by rw[IntKind.wrap_u64];omega
 clear h2 h3 h4;by_cases hbad:bad=true
 ·subst hbad;go_enter func166,ntmps166
  go_wp2;go_ret;exact HF.out
 ·obtain rfl:bad=false:=by simpa using hbad
  have hlt:l.length<n:=by simpa using hn
  go_enter func166,ntmps166
  go_wp2;go_ret;exact HF.out
theorem c1P(b B n:Nat)(l:List UInt8)(w:World)(h:L6 w b B l false)(hn:n<=l.length):
 Calls prog 166 #[.pointer (some ⟨b,0,none⟩),.int .u64 n] w (wN b B n l w):=by
 obtain⟨v,hb,hBb,hv⟩:=h;obtain⟨⟨a,cap,rfl,h1,h2,h3⟩,h4⟩:=id hv;have HV:=ah hv;have HB:=ah hb;obtain⟨hc0,hc1,hf0,hf1⟩:=Kw hb;clear hb hv;have hwl:IntKind.u64.wrap (l.length:Int)=(l.length:Int):=by rw[IntKind.wrap_u64];omega
 have hnl:¬l.length<n:=by omega
 clear h2 h3 h4;have hfin:∀u,X6 w B u (l.drop n)->wN b B n l w (.returned (.slice a n n)) (w.setCell ⟨b,0,none⟩ u):=by
  intro u hu;have hB:Off b w (w.setCell ⟨b,0,none⟩ u):=(Off.refl b w).setCell 0 _;exact⟨_,rfl,(HV.out.head n hn).below (hB.below hBb),⟨u,Ft HB.out,hBb,hu.below (hB.below hBb)⟩,hB⟩
 have ht:=HV.out.sliced n l.length hn (aj _);rw[bG] at ht;have HF:=ah hfin;clear hfin;have HT:=ah ht;clear ht;by_cases hcn:cap=n
 ·subst hcn;have Ih:=ah (by simpa using HT.out:X6 w B (.slice a (l.length - cap) 0) (l.drop cap));go_enter func166,ntmps166
  go_wp2;go_ret;have e0:l.length - cap=0:=by omega
  have ht:=Ih.out;rw[e0] at ht;exact HF.out _ ht
 ·have Ih:=ah (by simpa [hcn] using HT.out:X6 w B (.slice (Option.map (λx=>x.add n) a) (l.length - n) (cap - n)) (l.drop n));go_enter func166,ntmps166
  go_wp2;go_ret;exact HF.out _ Ih.out
def aE(b B:Nat)(m:Nat)(l:List UInt8)(bad:Bool)(w:World)(e:Ending)(w':World):Prop:=e=.returned (.int .u64 m)/\L6 w' b B l bad/\Off b w w'
theorem b36(b B n:Nat)(l:List UInt8)(bad:Bool)(w:World)(h:L6 w b B l bad)(hn:bad=true\/l.length<n):
 Calls prog 126 #[.pointer (some ⟨b,0,none⟩),.int .u64 n] w (aE b B 0 l true w):=by
 have H:=ah h;clear h;go_enter func126,ntmps126
 go_wp2_with fail
 refine(c1O b B n l bad w H.out hn).mono ?_;rintro e w1 ⟨rfl,h1,h2⟩;have H1:=ah h1;clear h1;go_wp2;refine wp_loop_rounds 1 ?_;rw[rounds_succ];go_wp2;go_ret;exact⟨rfl,H1.out,h2⟩
theorem b37(b B n:Nat)(l:List UInt8)(w:World)(h:L6 w b B l false)(hn:n<=l.length)(h8:n<=8):
 Calls prog 126 #[.pointer (some ⟨b,0,none⟩),.int .u64 n] w (aE b B (num (l.take n)) (l.drop n) false w):=by
 have H:=ah h;clear h;go_enter func126,ntmps126
 go_wp2_with fail
 refine(c1P b B n l w H.out hn).mono ?_;rintro e w1 ⟨v,rfl,⟨hv,_⟩,h1,h2⟩;have H1:=ah h1;clear h1;have hlen:(l.take n).length<=8:=by rw[bD];omega
 generalize l.take n=m at *;obtain⟨a,cap,rfl,hc,hc',hcell⟩:=hv.open;go_wp2;go_loop [5,7,12] (λc _ i=>∃k:Nat,k<=m.length/\i=.int .i64 k/\c=.int .u64 (num (m.take k))) (λ_ _ i=>m.length - (intOf i).toNat)
 case atStart=>exact⟨0,bU _,rfl,rfl⟩
 case round=>
  obtain⟨k,hk,rfl,rfl⟩:=hrel;by_cases hlt:k<m.length
  ·obtain⟨ad,rfl,hb⟩:=hcell k hlt;have hs:Hid (num (m.take (k+1))=num (m.take k)*256+m[k].toNat):=by
    have e:num (m.take (k+1))=num (m.take k)*256+m[k].toNat:=by rw[take_snoc m k hlt,ZO]
    exact e
   have hC:num (m.take k)<256^7:=ak (TG _) (ji (by omega) (by rw[bD];omega));clear hcell;generalize num (m.take k)=C at *;have hx:=JL m[k];generalize m[k]=x at *;have hC':C<72057594037927936:=hC;clear hC;go_wp2;go_round
   case rel=>
    refine⟨k+1,by omega,by go_num,?_⟩;rw[hs.out,A9 hC']
   case measure=>simp[intOf];omega
  ·go_wp2;go_ret;obtain rfl:k=m.length:=by omega
   exact⟨by rw[bG];rfl,H1.out,h2⟩
theorem Vr(b B n:Nat)(s:List UInt8×Bool)(w:World)(h:L6 w b B s.1 s.2)(h8:n<=8):
 Calls prog 126 #[.pointer (some ⟨b,0,none⟩),.int .u64 n] w (aE b B (lg s n).1 (lg s n).2.1 (lg s n).2.2 w):=by
 unfold lg;by_cases hc:s.2=true\/s.1.length<n
 ·rw[if_pos hc];exact b36 b B n s.1 s.2 w h hc
 ·rw[if_neg hc];have h2:s.2=false:=by simpa using λe=>hc (.inl e)
  rw[h2] at h;exact b37 b B n s.1 w h (by omega) h8
end
section
open Go.RowKit Go.Lib Pl
def iQ(w:World)(B:Nat)(v:Value)(l:List Int):Prop:=w.ownsRow B 3 1 v l.length (l.map (Value.int .i64))
theorem iQ.ints{w:World}{B:Nat}{v:Value}{l:List Int}(h:iQ w B v l):Ints w v l:=by
 have hh:=h;rcases h.2 with⟨rfl,h0⟩|⟨g,cap,cur,rfl,hb,hg,h1,h2,h3,h4⟩
 ·have:l=[]:=cZ h0;subst this;exact⟨none,0,rfl,by simp,⟨by omega,λ_=>rfl⟩,by simp⟩
 ·exact⟨some ⟨g,0,none⟩,cap,rfl,h1,⟨by unfold maxLen at h2;omega,λh=>by cases h⟩,λ_=>⟨_,rfl,λi x hx=>hh.cells rfl i x hx⟩⟩
def If(r:Option (Nat×List Int))(w:World)(e:Ending)(w':World):Prop:=
 ∃g v y,e=.returned (.tuple #[.agg #[.int .u64 g,v],y])/\Ext w w'/\
  ((r=none/\g=0/\v=.slice none 0 0/\y=Z5 6)\/(∃gen ids,r=some (gen,ids)/\g=(gen:Int)/\y=.nilIface/\iQ w' w.heap.size v ids))
def zk(w wr:World)(rb mb g:Nat)(s:List UInt8×Bool)(L:List Int)(v:Value):Prop:=
 L6 wr rb w.heap.size s.1 s.2/\o8 wr w.heap.size 125 #[.int .u64 0,.slice none 0 0]/\o8 wr mb 125 #[.int .u64 g,v]/\iQ wr w.heap.size v L/\Ext w wr/\w.heap.size<rb/\rb<mb
theorem zk.off{w wr w1:World}{rb mb g:Nat}{s s':List UInt8×Bool}{L:List Int}{v:Value}(h:zk w wr rb mb g s L v)(hO:Off rb wr w1)(hR:L6 w1 rb w.heap.size s'.1 s'.2):zk w w1 rb mb g s' L v:=by
 obtain⟨h1,h2,h3,h4,h5,h6,h7⟩:=h;obtain⟨rv,hr1,_,_⟩:=h1;have hne:=ownsRow_ne h4 hr1 (by decide);refine⟨hR,hO.box h2 (by omega),hO.box h3 (by omega),?_,Below.trans h5 (hO.below (by omega)),h6,h7⟩;obtain⟨q1,q2⟩:=h4;refine⟨q1,?_⟩;rcases q2 with q2|⟨gb,cap,cur,rfl,hg,hh,r⟩
 ·exact Or.inl q2
 ·exact Or.inr ⟨gb,cap,cur,rfl,hg,(hO.block gb (by intro e;subst e;exact hne rfl)).trans hh,r⟩
theorem zk.ext{w wr w1:World}{rb mb g:Nat}{s:List UInt8×Bool}{L:List Int}{v:Value}(h:zk w wr rb mb g s L v)(hE:Ext wr w1):zk w w1 rb mb g s L v:=by
 obtain⟨h1,h2,h3,h4,h5,h6,h7⟩:=h;obtain⟨rv,hr1,hr2,hr3⟩:=h1;have hl2:=lt_of_block h2;have hl3:=lt_of_block h3;have hl1:=lt_of_block hr1;exact⟨⟨rv,(hE.block _ hl1).trans hr1,hr2,hr3.below (hE.mono (by omega))⟩,h2.below hE hl2,h3.below hE hl3,ownsRow_below h4 hE,Ext.trans h5 hE,h6,h7⟩
theorem zk.grow{w wr w0 w1:World}{rb mb g:Nat}{s:List UInt8×Bool}{L:List Int}{v v':Value}(h:zk w wr rb mb g s L v)(hb0:Ext wr w0)(hgrow:w0.grownBy w1 v.ownBlock)
 {n:Nat}{xs:List Value}(hown1:w1.ownsRow w.heap.size 3 1 v' n xs){L':List Int}(hn:n=L'.length)(hx:xs=L'.map (Value.int .i64)):
 o8 w1 mb 125 #[.int .u64 g,v]/\zk w (w1.setCell ⟨mb,1,none⟩ v') rb mb g s L' v':=by
 subst hn;subst hx;obtain⟨h1,h2,h3,h4,h5,h6,h7⟩:=h.ext hb0;obtain⟨rv,hr1,hr2,hr3⟩:=h1;have hl2:=lt_of_block h2;have hl3:=lt_of_block h3;have hl1:=lt_of_block hr1;have hne1:=ownsRow_ne h4 hr1 (by decide);have hne2:=ownsRow_ne h4 h2 (by decide);have BH:=ownsRow_ne h4 h3 (by decide);have hr1':=(hgrow.block rb hl1 (bP hne1)).trans hr1;have h2':o8 w1 w.heap.size 125 #[.int .u64 0,.slice none 0 0]:=(hgrow.block _ hl2 (bP hne2)).trans h2;have h3':o8 w1 mb 125 #[.int .u64 g,v]:=(hgrow.block mb hl3 (bP BH)).trans h3;have hlow:∀k,v.ownBlock=some k->w.heap.size<=k:=λk hk=>(h4.lt k hk).1;have hE1:Ext w w1:=Below.grown h5 hgrow (by have:=h5.size;omega) hlow;refine⟨h3',⟨rv,?_,hr2,?_⟩,?_,h3'.set 1 v',?_,hE1.iJ (by simp;omega),h6,h7⟩
 ·rw[Below.heap_setCell _ _ _ _ (by simp;omega)];exact hr1'
 ·have hB:Below w.heap.size w0 (w1.setCell ⟨mb,1,none⟩ v'):=((Below.refl _ w0).grown hgrow (by have:=h5.size;omega) hlow).setCell (by simp;omega) _;exact hr3.below hB
 ·exact h2'.setOther (by simp;omega) _
 ·exact ownsRow_setCell_other (a:=⟨mb,1,none⟩) hown1 (ownsRow_ne hown1 (b:=mb) (t:=125) (by exact h3') (by decide)) _
theorem c1N{w:World}{n B:Nat}{u1 u2:Value}{v:Value}{L:List Int}(hX:o8 w n 125 #[u1,u2])(h:iQ w B v L)(g:Nat)(v':Value):
 iQ ((w.setCell ⟨n,0,none⟩ (.int .u64 g)).setCell ⟨n,1,none⟩ v') B v L:=by
 have hne:=ownsRow_ne h (b:=n) (t:=125) (by exact hX) (by decide);exact ownsRow_setCell_other (a:=⟨n,1,none⟩) (ownsRow_setCell_other (a:=⟨n,0,none⟩) h hne _) hne _
theorem b2I(v:Value)(l:List UInt8)(w:World)(h:Bytes w v l):
 Calls prog 94 #[v] w (If (aV l) w):=by
 obtain⟨⟨m1,s1⟩,e1⟩:∃p,p=lg (l,false) 4:=⟨_,rfl⟩;obtain⟨⟨gen,s2⟩,e2⟩:∃p,p=lg s1 8:=⟨_,rfl⟩;obtain⟨⟨n,s3⟩,e3⟩:∃p,p=lg s2 2:=⟨_,rfl⟩;obtain⟨hn,hall⟩:=mi e1 e2 e3;have HA:=ah hall;clear hall;have E1:=ah e1;have E2:=ah e2;have E3:=ah e3;clear e1 e2 e3;obtain⟨i0,hi,hz0,hz1,hz2⟩:=info_parts ZF;obtain⟨a,cap,rfl,h1,h2,h3⟩:=id h;have HL:=ah (X6.of h);clear h h2 h3;go_enter func94,ntmps94
 go_wp2_with fail
 have x0:o8 (w.alloc (.cells #[.int .u64 0,.slice none 0 0] 125)) w.heap.size 125 #[.int .u64 0,.slice none 0 0]:=heap_alloc_new w _;have X:=x0.alloc (.cells #[.slice a l.length cap,.bool false] 241);have jg:Ext w ((w.alloc (.cells #[.int .u64 0,.slice none 0 0] 125)).alloc (.cells #[.slice a l.length cap,.bool false] 241)):=((Ext.refl w).new _).new _;have hR:L6 ((w.alloc (.cells #[.int .u64 0,.slice none 0 0] 125)).alloc (.cells #[.slice a l.length cap,.bool false] 241)) (w.heap.size+1) w.heap.size l false:=by
  refine⟨.slice a l.length cap,?_,by omega,HL.out.below jg⟩;exact o8.new _ _ (by simp)
 clear x0;have c1:=Vr (w.heap.size+1) w.heap.size 4 (l,false) _ hR (by omega);rw[<-E1.out] at c1;refine c1.mono ?_;clear c1 hR;rintro e w1 ⟨rfl,hR,hb⟩;replace jg:=Below.trans jg (hb.below (by omega));replace X:=hb.box X (by omega);clear hb;go_wp2_with fail
 have c2:=Vr (w.heap.size+1) w.heap.size 8 s1 _ hR (by omega);rw[<-E2.out] at c2;refine c2.mono ?_;clear c2 hR;rintro e w2 ⟨rfl,hR,hb⟩;replace jg:=Below.trans jg (hb.below (by omega));replace X:=hb.box X (by omega);clear hb;obtain⟨mb,hmb⟩:∃mb,mb=w2.heap.size:=⟨_,rfl⟩;have hlt:w.heap.size+1<mb:=by
  obtain⟨_,hr,_⟩:=hR;rw[hmb];exact lt_of_block hr
 go_wp2_with fail
 have hS0:zk w (w2.alloc (.cells #[.int .u64 gen,.slice none 0 0] 125)) (w.heap.size+1) mb gen s2 [] (.slice none 0 0):=by
  have hE2:Ext w2 (w2.alloc (.cells #[.int .u64 gen,.slice none 0 0] 125)):=(Ext.refl _).new _;obtain⟨rv,hr1,hr2,hr3⟩:=hR;refine⟨⟨rv,?_,hr2,hr3.below (hE2.mono (by have:=jg.size;omega))⟩,X.alloc _,o8.new _ _ hmb.symm,⟨rfl,Or.inl ⟨rfl,rfl⟩⟩,Ext.new jg _,by omega,hlt⟩;exact(hE2.block _ (lt_of_block hr1)).trans hr1
 rw[<-hmb];have c3:=Vr (w.heap.size+1) w.heap.size 2 s2 _ hS0.1 (by omega);rw[<-E3.out] at c3;refine c3.mono ?_;clear c3 hR jg X;rintro e w3 ⟨rfl,hR,hb⟩;have hS:=hS0.off hb hR;clear hS0 hb hR;clear hmb;have hU:CB l 0 s3 []:=by
  rcases HA.out with⟨h1,_,h3⟩|⟨h1,h2,_⟩
  ·exact Or.inr ⟨h3,Or.inl h1⟩
  ·exact Or.inl ⟨h2,by omega,rfl⟩
 have hN:s3.2=false->n=cnt l/\14<=l.length/\m1=num (l.take 4)/\gen=num ((l.drop 4).take 8):=by
  intro hf;rcases HA.out with⟨_,_,h3⟩|⟨h1,_,h3,h4,h5⟩
  ·rw[h3] at hf;cases hf
  ·exact⟨h5,h1,h3,h4⟩
 have hN0:n<=cnt l/\(s3.2=true->n=0):=by
  rcases HA.out with⟨_,h2,_⟩|⟨_,h2,_,_,h5⟩
  ·exact⟨by omega,λ_=>h2⟩
  ·exact⟨by omega,λh=>by rw[h2] at h;cases h⟩
 have HN:=ah hN;have fe:=ah hN0;have HS:=ah hS;have HU:=ah hU;clear hN hN0 hS hU HA E1 E2 E3;go_wp2;go_loopw [7] (λc wr=>∃(k:Nat)(s:List UInt8×Bool)(L:List Int)(v:Value),k<=n/\c=.int .u64 ((n:Int) - k)/\L.length=k/\(∀x∈L,(Lit.int .i64 x).wf=true)/\CB l k s L/\(s3.2=true->s.2=true)/\zk w wr (w.heap.size+1) mb gen s L v) (λc _=>(intOf c).toNat)
 case atStart=>exact⟨0,s3,[],.slice none 0 0,bU _,by simp,rfl,by simp,HU.out,λh=>h,HS.out⟩
 case round=>
  clear HS HU;obtain⟨k,s,L,v,hk,rfl,hLk,hwf,hU,hs3,hSt⟩:=hrel;obtain⟨rv,hr1,hr2,hr3⟩:=id hSt.1;obtain⟨Sj,Jp,WW,WV⟩:=Kw hr1;have xc0:=hSt.2.1.cell 0;have kL:=hSt.2.1.cell 1;have xf0:=hSt.2.1.free 0;have xf1:=hSt.2.1.free 1;have mR:=hSt.2.2.1.cell 0;have mN:=hSt.2.2.1.cell 1;have mf1:=hSt.2.2.1.free 1;have xE:=ah hSt;have HU:=ah hU;have HW:=ah hwf;have HR3:=ah hr3;clear hSt hU hwf hr1 hr2 hr3 WW WV;by_cases hbad:s.2=true
  ·have hd:aV l=none:=Y6 (HU.out.bad hbad);rw[hbad] at Jp;have HX:=ah xE.out.2.2.2.2.1;clear xE HU HN fe;by_cases hkn:k<n
   ·go_wp2;refine bodyPost_ret (v:=.tuple #[.agg #[.int .u64 0,.slice none 0 0],Z5 6]) (by simp[results,results94,go_sem,xc0,kL,Z5]) rfl ⟨0,_,_,rfl,?_,Or.inl ⟨hd,rfl,rfl,rfl⟩⟩;repeat' refine Ext.iJ ?_ (by simp)
    exact HX.out
   ·go_wp2;refine bodyPost_ret (v:=.tuple #[.agg #[.int .u64 0,.slice none 0 0],Z5 6]) (by simp[results,results94,go_sem,xc0,kL,Z5]) rfl ⟨0,_,_,rfl,?_,Or.inl ⟨hd,rfl,rfl,rfl⟩⟩;repeat' refine Ext.iJ ?_ (by simp)
    exact HX.out
  ·have hbf:s.2=false:=Bool.eq_false_iff.2 hbad;rw[hbf] at Jp;have Nl:s3.2=false:=by
    cases h:s3.2 with
    | false=>rfl
    | true=>rw[hs3 h] at hbf;cases hbf
   obtain⟨hnc,XH,hm1,hgen⟩:=HN.out Nl;have Dp:=ah hm1;have gd:=ah hgen;have HNC:=ah hnc;have ge:=ah hLk;clear hm1 hgen hLk;by_cases hkn:k<n
   ·obtain⟨⟨x,s'⟩,ex⟩:∃p,p=lg s 4:=⟨_,rfl⟩;obtain⟨hx32,ot⟩:=HU.out.step hbf (by omega) ex;have hwx:IntKind.i64.wrap (x:Int)=(x:Int):=IntWalk.i64_in _ (by omega);have hLn:L.length<65536:=by have:=ge.out;omega
    clear hnc;have hcall:=Vr (w.heap.size+1) w.heap.size 4 s wr.drew (by
     obtain⟨q1,q2,q3,q4⟩:=xE.out.1;exact⟨q1,q2,q3,q4.below ((Below.refl _ _).drew)⟩) (by omega)
    rw[<-ex] at hcall;have HU':=ah ot;have HC:=ah hcall;have HEX:=ah ex;clear ot hcall ex;have hn16:n<65536:=hn;go_wp2_with fail
    go_region_law (first|(go_simp;go_at_call 126;refine HC.out.mono ?_;rintro e w5 ⟨rfl,ox,hb5⟩;have hS5:=ah ((xE.out.ext (Below.drew (Ext.refl wr))).off hb5 ox);have m5:=hS5.out.2.2.1.cell 1;have mf5:=hS5.out.2.2.1.free 1;have ma5:=(hS5.out.2.2.1.alloc (.cells #[.int .i64 x] 3)).cell 1;clear ox hb5)|(refine step_append_lies _ (by rfl) _ _ _ (by rfl) w.heap.size 3 i0 _ 1 8 underlying69 hi hz0 hz1 hz2 rfl (by omega) v L.length (L.map (Value.int .i64)) (by rfl) (hS5.out.2.2.2.1.alloc _) ⟨w5.heap.size,0,none⟩ 1 1 [_] (by rfl) (by rfl) (World.news_of_block (cs:=#[_]) (t:=3) (fr:=(0,0)) (heap_alloc_new w5 _)) (by simp[Value.oneCell']) (by omega) (by unfold maxLen;omega) (by omega) (by have:=hS5.out.2.2.2.2.1.size;simp;omega) (w5.heap.size+1) (by simp) ?_;intro gg cap6 w6 hown6 hgrow6 jL XG;have HST:=ah (hS5.out.grow (L':=L++[(x:Int)]) (Ext.new (Ext.refl w5) _) hgrow6 hown6 (by simp) (by simp));have m6:=HST.out.1.cell 1;have np:=HST.out.1.free 1))
    all_goals
     go_wp2;go_roundw
     case rel=>
      have hwf':∀y∈L++[(x:Int)],(Lit.int .i64 y).wf=true:=by
       intro y hy;rcases aU.1 hy with h|h
       ·exact HW.out y h
       ·simp only[fP] at h;subst h;exact FA ⟨by omega,by omega⟩
      have Xv:s3.2=true->s'.2=true:=λh=>absurd (h.symm.trans Nl) (by decide);exact⟨k+1,s',L++[(x:Int)],_,by omega,by go_num,by have:=ge.out;simp;omega,hwf',HU'.out,Xv,HST.out.2⟩
     case measure=>simp[intOf];omega
   ·obtain rfl:k=n:=by omega
    obtain⟨ra,mm,rfl,hrc,Nr,-⟩:=HR3.out.1.open;rw[hnc] at HU;obtain⟨hrest,hlen,Yc⟩:=HU.out.all hbf;have hrl:s.1.length=l.length - (14+4*cnt l):=by rw[hrest];simp
    rw[hrl] at Sj;have HX:=ah xE.out.2.2.2.2.1;by_cases hlong:14+4*cnt l<l.length
    ·have hd:aV l=none:=Y6 (UY (by omega));clear xE HU HN fe;go_wp2;refine bodyPost_ret (v:=.tuple #[.agg #[.int .u64 0,.slice none 0 0],Z5 6]) (by simp[results,results94,go_sem,xc0,kL,Z5]) rfl ⟨0,_,_,rfl,?_,Or.inl ⟨hd,rfl,rfl,rfl⟩⟩;repeat' refine Ext.iJ ?_ (by simp)
     exact HX.out
    ·have hl:l.length=14+4*cnt l:=by omega
     have hsl:∀W:World,Below w.heap.size w W->Bytes W (.slice (a.map (λx=>⟨x.block,x.off+4,none⟩)) (l.length - 4) (cap - 4)) (l.drop 4):=by
      intro W hW;have:=((HL.out.below hW).sliced 4 l.length (by omega) (by omega)).1;rw[if_neg (by omega),bG] at this;have e:a.map (λx=>x.add 4)=a.map (λx=>⟨x.block,x.off+4,none⟩):=by
       congr 1
      rw[<-e];exact this
     have HS:=ah hsl;clear hsl;have hs4:(4:Nat)<=l.length:=by omega
     have hs5:l.length<=cap:=h1;have hs6:¬cap=4:=by omega
     have hm4:m1<4294967296:=by rw[Dp.out];exact O8 l 4
     have hcall:=b3y (H:=Unit) v L wr xE.out.2.2.2.1.ints HW.out;have pB:nC L=nC (Y5 l (cnt l)):=by rw[Yc]
     have Ol:iQ wr w.heap.size v L:=xE.out.2.2.2.1;have HO:=ah Ol;have dT:=ah (HS.out wr HX.out);rw[hl] at dT;have hw3:∀c:Nat,c<4294967296->IntKind.u64.wrap (c:Int)=(c:Int):=λc h=>by rw[IntKind.wrap_u64];omega
     have hwc:=hw3 _ (Ew (l.drop 4));have hne:(¬crc (l.drop 4)=m1->((crc (l.drop 4):Int) != (m1:Int))=true)/\(crc (l.drop 4)=m1->((crc (l.drop 4):Int) != (m1:Int))=false):=
      ⟨λh=>by rw[bne,bn.2 (by omega)];rfl,λh=>by rw[bne,dP.2 (by omega)];rfl⟩
     have KO:=ah hne;have HC:=ah hcall;have gp:=ah pB;have fw:=ah Yc;clear XH hw3 hne hcall pB Yc Ol HS;go_wp2_with fail
     refine(sum_any _ _ _ dT.out).mono ?_;rintro e w8 ⟨rfl,hw⟩;subst hw;by_cases hcr:crc (l.drop 4)=m1
     ·have oK:=KO.out.2 hcr;obtain⟨va,vc,rfl⟩:=ownsRow_form HO.out;go_wp2_with fail
      refine HC.out.mono ?_;rintro e w9 ⟨rfl,vV⟩;have X9:=xE.out.2.1.below vV (lt_of_block xE.out.2.1);have M9:=xE.out.2.2.1.below vV (lt_of_block xE.out.2.2.1);have Ju:iQ w9 w.heap.size (.slice va L.length vc) L:=ownsRow_below HO.out vV;have rp:=c1N X9 Ju gen (.slice va L.length vc);have hE:Ext w w9:=Ext.trans HX.out vV;have dt:=ah hE;have HO9:=ah Ju;clear xc0 kL xf0 xf1 mR mN mf1 Sj Jp hE Ju vV;have xc0:=X9.cell 0;have kL:=X9.cell 1;have xf0:=X9.free 0;have xf1:=X9.free 1;have mR:=M9.cell 0;have mN:=M9.cell 1;clear X9 M9
      cases hok:nC L with
      | false=>
       have hd:aV l=none:=Y6 (RR (by rw[<-gp.out];exact hok));go_wp2;refine bodyPost_ret (v:=.tuple #[.agg #[.int .u64 0,.slice none 0 0],Z5 6]) (by simp[results,results94,go_sem,xc0,kL,Z5]) rfl ⟨0,_,_,rfl,?_,Or.inl ⟨hd,rfl,rfl,rfl⟩⟩;repeat' refine Ext.iJ ?_ (by simp)
       exact dt.out
      | true=>
       have hd:aV l=some (num ((l.drop 4).take 8),Y5 l (cnt l)):=Wm (by omega) hl (by rw[<-Dp.out];exact hcr) (by rw[<-gp.out];exact hok);have HD:=ah hd;clear hd;go_wp2;refine bodyPost_ret (v:=.tuple #[.agg #[.int .u64 gen,.slice va L.length vc],.nilIface]) (by simp[results,results94,go_sem,xc0,kL]) rfl ⟨(gen:Int),_,_,rfl,?_,Or.inr ⟨gen,L,?_,rfl,rfl,?_⟩⟩
       ·repeat' refine Ext.iJ ?_ (by simp)
        exact dt.out
       ·rw[HD.out,gd.out,fw.out]
       ·exact rp
     ·have oK:=KO.out.1 hcr;have hd:aV l=none:=Y6 (R2 (by rw[<-Dp.out];exact hcr));go_wp2;refine bodyPost_ret (v:=.tuple #[.agg #[.int .u64 0,.slice none 0 0],Z5 6]) (by simp[results,results94,go_sem,xc0,kL,Z5]) rfl ⟨0,_,_,rfl,?_,Or.inl ⟨hd,rfl,rfl,rfl⟩⟩;repeat' refine Ext.iJ ?_ (by simp)
      exact HX.out
end
section
open Go.RowKit Go.Lib
def uQ(F:Value->Prop)(w:World)(v:Value):Prop:=∀g c e fr,v.ownBlock=some g->w.heap[g]?=some (.cells c e fr)->∀x∈c,F x
def isByte(x:Value):Prop:=∃k:Int,x=.int .u8 k
abbrev ug(w:World)(v:Value):Prop:=uQ isByte w v
theorem ug.nil(w:World)(n c:Nat):ug w (.slice none n c):=λg c e fr h=>by cases h
theorem uQ.keep{F:Value->Prop}{w w':World}{v:Value}(h:uQ F w v)(he:∀g,v.ownBlock=some g->w'.heap[g]?=w.heap[g]?):uQ F w' v:=λg c e fr hg hc=>h g c e fr hg ((he g hg)▸hc)
theorem MY(l:List UInt8):∀x∈l.map dX,isByte x:=by
 intro x hx;obtain⟨b,_,rfl⟩:=bg.1 hx;exact⟨_,rfl⟩
theorem Z6{F:Value->Prop}{z:Array Value}(h:∀x∈z,F x)(n:Nat):∀x∈Builtin.zeroCells z n,F x:=by
 intro x hx;unfold Builtin.zeroCells at hx;obtain⟨i,hi,rfl⟩:=gI.1 hx;have h0:0<z.size:=by
  rcases dU z.size with h|h
  ·rw[h] at hi;simp at hi
  ·exact h
 have hlt:i%z.size<z.size:=Nat.mod_lt _ h0;rw[vY z (i%z.size) hlt];exact h _ (iY hlt)
theorem a8q{P:Program}{F:Value->Prop}(w:World)(base:Nat)(t ty e:TypeId)(i:TypeInfo)(z:Value)(size bytes:Nat)(ht:P.underlying t=some (.slice e))(hi:P.info? e=some i)(hz:i.zero=some z)
 (hsize:i.size=size)(hby:i.bytes=bytes)(hzs:z.cells.size=size)(hsz:0<size)
 (v:Value)(n:Nat)(xs:List Value)(hown:w.ownsRow base e size v n xs)(x:Value)(m:Nat)(news:List Value)(hx:uZ w x m news)(hl:news.length=m*size)(h1:∀u∈news,u.oneCell'=true)
 (h63:n+m<=maxLen)(hbytes:(n+m)*bytes<=140737488355328)(Fz:∀x∈z.cells,F x)(Fn:∀x∈news,F x)(Fo:uQ F w v){v':Value}{w':World}(hr:(Builtin.append_ #[t,t] ty #[v,x]).run P w=.ok v' w'):uQ F w' v':=by
 subst hsize;subst hby;have hsmall:n+m<=9223372036854775807:=by simp only[maxLen] at h63;omega
 obtain⟨a,c,rfl,hc1,⟨hc2,hc3⟩,hc⟩:=hx
 cases a with
 | none=>
  obtain rfl:=hc3 rfl;obtain rfl:m=0:=by omega
  rw[run_append_owned_none (P:=P) (w:=w) base t ty e i i.size ht hi v n xs hown] at hr;injection hr with e1 e2;subst e1;subst e2
  exact Fo
 | some ad=>
  have hcell:∀j u,news[j]?=some u->w.cell? (ad.add j)=some u:=by
   intro j u hu;obtain⟨b,hb,hcc⟩:=hc (by intro e;subst e;simp at hu);injection hb with hb;subst hb;exact hcc j u hu
  rcases hown.2 with⟨rfl,rfl⟩|⟨g,cap,cur,rfl,hbg,hg,hnc,hcm,hcs,htake⟩
  ·by_cases hm:m=0
   ·subst hm;have hn:news=[]:=cZ (by simpa using hl);subst hn;have e0:(Builtin.append_ #[t,t] ty #[.slice none 0 0,.slice (some ad) 0 c]).run P w=.ok (.slice none 0 0) w:=by
     simp[Builtin.append_,run_underlying ht,sizeOf,typeInfo,hi,Builtin.lenOf,Builtin.firstCells,loadCells,loadCellsFrom]
    rw[e0] at hr;injection hr with e1 e2;subst e1;exactλg c e fr h=>by cases h
   ·have e0:=run_append_nil (P:=P) w t ty e i z ht hi hz ad m c news hl hcell (by omega) (by omega) (by have hb:=hbytes;simp only[n_] at hb;omega);rw[e0] at hr;injection hr with e1 e2;subst e1;subst e2;intro g c e' fr hg' hc' y hy;obtain rfl:w.heap.size=g:=by simpa [Value.ownBlock] using hg'
    rw[show(w.drew.alloc (.cells (news.toArray++Builtin.zeroCells z.cells (grownCap w m 0 e - m)) e)).heap[w.heap.size]?=some (.cells (news.toArray++Builtin.zeroCells z.cells (grownCap w m 0 e - m)) e) from heap_alloc_new w.drew _] at hc';injection hc' with hc';injection hc' with e1 e2 e3;subst e1;rcases dh.1 hy with h|h
    ·exact Fn y (by simpa using h)
    ·exact Z6 Fz _ y h
  ·have Fc:∀x∈cur,F x:=Fo g cur e (0,0) rfl hg;by_cases hroom:n+m<=cap
   ·have hfit:n*i.size+news.length<=cur.size:=by rw[hl,hcs,<-Nat.add_mul];exact h_ _ hroom
    have e0:=run_append_room (P:=P) w t ty e i ht hi g n cap cur hg ad m c news hl hcell h1 hroom hfit;rw[e0] at hr;injection hr with e1 e2;subst e1;subst e2;intro g' c e' fr hg' hc' y hy;obtain rfl:g=g':=by simpa [Value.ownBlock] using hg'
    rw[setRow_heap w g cur _ e _ hg] at hc';injection hc' with hc';injection hc' with e1 e2 e3;subst e1;have hy':y∈cur.toList.take (n*i.size)++news++cur.toList.drop (n*i.size+news.length):=by simpa using hy
    rcases aU.1 hy' with h|h
    ·rcases aU.1 h with h|h
     ·exact Fc y (by simpa using List.mem_of_mem_take h)
     ·exact Fn y h
    ·exact Fc y (by simpa using List.mem_of_mem_drop h)
   ·have holds:∀j u,xs[j]?=some u->w.cell? ((⟨g,0,none⟩:Addr).add j)=some u:=hown.cells (g:=g) rfl;have e0:=run_append_grow (P:=P) w t ty e i z ht hi hz ⟨g,0,none⟩ n cap xs hown.1 holds ad m c news hl hcell (by omega) (by omega) (growslice_fits (by omega) hbytes);rw[e0] at hr;injection hr with e1 e2;subst e1;subst e2;intro g' c e' fr hg' hc' y hy;obtain rfl:w.heap.size=g':=by simpa [Value.ownBlock] using hg'
    rw[show ∀o,(w.drew.alloc o).heap[w.heap.size]?=some o from λo=>heap_alloc_new w.drew _] at hc';injection hc' with hc';injection hc' with e1 e2 e3;subst e1;rcases dh.1 hy with h|h
    ·rcases dh.1 h with h|h
     ·have:y∈cur.toList.take (n*i.size):=by rw[htake];simpa using h
      exact Fc y (by simpa using List.mem_of_mem_take this)
     ·exact Fn y (by simpa using h)
    ·exact Z6 Fz _ y h
theorem Vs{P:Program}{F:Value->Prop}{w:World}{ops:Array Oper}{rest:List Oper}{o:Oper}{a:Act}{Q:Exit->Act->World->Prop}(hgd:o.guard=none)(s x:Operand)(t:TypeId)
 (ho:o.op=.call {callee:=.builtin .append,args:=#[s,x],argTypes:=#[t,t]})
 (base:Nat)(e:TypeId)(i:TypeInfo)(z:Value)(size bytes:Nat)(ht:P.underlying t=some (.slice e))(hi:P.info? e=some i)(hz:i.zero=some z)
 (hsize:i.size=size)(hby:i.bytes=bytes)(hzs:z.cells.size=size)(hsz:0<size)
 (v:Value)(n:Nat)(xs:List Value)(hs:a.eval s=v)(hown:w.ownsRow base e size v n xs)(y:Value)(m:Nat)(news:List Value)(hy:a.eval x=y)(hx:uZ w y m news)(hl:news.length=m*size)(h1:∀u∈news,u.oneCell'=true)
 (h63:n+m<=maxLen)(hbytes:(n+m)*bytes<=140737488355328)(hbase:base<=w.heap.size)(Fz:∀x∈z.cells,F x)(Fn:∀x∈news,F x)(Fo:uQ F w v)
 (h:∀b c w',w'.ownsRow base e size (.slice b (n+m) c) (n+m) (xs++news)->w.grownBy w' v.ownBlock->((Value.slice b (n+m) c).ownBlock=v.ownBlock\/(Value.slice b (n+m) c).ownBlock=some w.heap.size)->uQ F w' (.slice b (n+m) c)->wpList P ops Q rest (a.put o.dst (.slice b (n+m) c)) w'):
 wpList P ops Q (o::rest) a w:=by
 refine wpList_plain hgd λK hK=>?_;obtain⟨v',w',hrun,h2,h3,h4⟩:=ax (P:=P) w base t o.type e i z size bytes ht hi hz hsize hby hzs hsz v n xs hown y m news hx hl h1 h63 hbytes hbase;have h5:=a8q (P:=P) w base t o.type e i z size bytes ht hi hz hsize hby hzs hsz v n xs hown y m news hx hl h1 h63 hbytes Fz Fn Fo hrun;obtain⟨b,c,rfl⟩:=ownsRow_form h2;unfold Oper.wp execOp;simp only[ho,resolve,invoke,builtin,Sem.run_bind,Sem.run_pure,Result.andThen_ok,eH,aB,dJ,hs,hy,hrun];exact hK _ _ (h b c w' h2 h3 h4 h5)
end
section
open Go.RowKit Go.Lib Go.Maps Dk
def bC(l:Nm):Value:=.string ⟨l.toArray⟩
def o7(x:Nat):Value:=.pointer (some ⟨x,0,none⟩)
theorem Ag(x y:Nm)(h:bC x=bC y):x=y:=by
 unfold bC at h;injection h with h;injection h with h;have:=congrArg Array.toList h;simpa using this
theorem VM(s:ByteArray):Value.string s=bC s.data.toList:=by unfold bC;simp
theorem EH:Keyed prog 9:=string_keyed underlying9
theorem Et{l:Nm}(h:l.length<=maxLen):keyOf prog 9 (bC l)=some (.string l):=by
 have hs:(⟨l.toArray⟩:ByteArray).size<=maxLen:=by
  show l.toArray.size<=maxLen;simpa using h
 simp[keyOf,mapKey,underlying9,bC,hs]
def tY:Option Nat->Value
 | none=>.pointer none
 | some x=>o7 x
def jT(m:Mv):List Value:=[bC m.1,tY m.2]
def oH(w:World)(g:Nat)(l:List Mv):Prop:=o8 w g 251 (l.flatMap jT).toArray
def oQ(g:Nat)(l:List Mv):Value:=.slice (some ⟨g,0,none⟩) l.length l.length
def JR(gs:List Nat)(x:Value):Prop:=x=.slice none 0 0\/∃g n,g∈gs/\x=.slice (some ⟨g,0,none⟩) n n
abbrev xA(w:World)(r:Nat)(l:List (Nm×Nat)):Prop:=MapOf prog 9 bC o7 w r l
structure bQ(w:World)(F:Nat->Prop)(a m1 m2:Nat)(mv:Value)(gs:List Nat)(dv:Nat->Value)(d:D):Prop where
 box:o8 w a 174 #[.map (some m1),.map (some m2),mv,.int .i64 d.room,.int .i64 d.wait,.int .i64 d.bad]
 now:xA w m1 d.now
 safe:xA w m2 d.safe
 ne:m1≠m2
 rows:gs.length=d.moves.length/\∀(i:Nat)(g:Nat)(l:List Mv),gs[i]?=some g->d.moves[i]?=some l->oH w g l
 outer:w.ownsRow 0 187 1 mv d.moves.length ((gs.zip d.moves).map λp=>oQ p.1 p.2)
 file:∀x∈d.ids,o8 w x 176 #[dv x,.int .i64 (d.node x).safe]/\OwnB w 0 (dv x) (d.node x).data
 apart:∀x∈d.ids,∀y∈d.ids,x≠y->∀b,(dv x).ownBlock=some b->(dv y).ownBlock≠some b
 fa:F a
 fm:F m1/\F m2
 fg:∀g∈gs,F g
 fo:∀b,mv.ownBlock=some b->F b
 fx:∀x∈d.ids,F x/\∀b,(dv x).ownBlock=some b->F b
 kJ:uQ (JR gs) w mv
 flat:∀x∈d.ids,ug w (dv x)
 low:∀b,F b->b<w.heap.size
 wf:d.Wf
 num:d.wait<=9223372036854775807/\d.bad<=9223372036854775807/\-4611686018427387904<=d.room/\d.room<=4611686018427387904
def A7(w:World)(F:Nat->Prop)(a:Nat)(d:D):Prop:=∃m1 m2 mv gs dv,bQ w F a m1 m2 mv gs dv d
section
variable{w w':World}{F:Nat->Prop}{a m1 m2:Nat}{mv:Value}{gs:List Nat}{dv:Nat->Value}{d:D}
theorem bQ.frame(h:bQ w F a m1 m2 mv gs dv d)(hk:∀b,F b->w'.heap[b]?=w.heap[b]?)(hs:w.heap.size<=w'.heap.size):bQ w' F a m1 m2 mv gs dv d where
 box:=(hk a h.fa).trans h.box
 now:=h.now.block (hk _ h.fm.1)
 safe:=h.safe.block (hk _ h.fm.2)
 ne:=h.ne
 rows:=⟨h.rows.1,λi g l hg hl=>(hk g (h.fg g (aJ hg))).trans (h.rows.2 i g l hg hl)⟩
 outer:=iV.row h.outer w' λb hb=>hk b (h.fo b hb)
 file:=λx hx=>⟨(hk x (h.fx x hx).1).trans (h.file x hx).1,iV.row (h.file x hx).2 w' λb hb=>hk b ((h.fx x hx).2 b hb)⟩
 apart:=h.apart
 fa:=h.fa
 fm:=h.fm
 fg:=h.fg
 fo:=h.fo
 fx:=h.fx
 kJ:=h.kJ.keep λb hb=>hk b (h.fo b hb)
 flat:=λx hx=>(h.flat x hx).keep λb hb=>hk b ((h.fx x hx).2 b hb)
 low:=λb hb=>ak (h.low b hb) hs
 wf:=h.wf
 num:=h.num
theorem bQ.ext(h:bQ w F a m1 m2 mv gs dv d)(hE:Ext w w'):bQ w' F a m1 m2 mv gs dv d:=h.frame (λb hb=>hE.block b (h.low b hb)) hE.size
theorem A7.ext(h:A7 w F a d)(hE:Ext w w'):A7 w' F a d:=by
 obtain⟨m1,m2,mv,gs,dv,h⟩:=h;exact⟨m1,m2,mv,gs,dv,h.ext hE⟩
theorem A7.frame(h:A7 w F a d)(hk:∀b,F b->w'.heap[b]?=w.heap[b]?)(hs:w.heap.size<=w'.heap.size):A7 w' F a d:=by
 obtain⟨m1,m2,mv,gs,dv,h⟩:=h;exact⟨m1,m2,mv,gs,dv,h.frame hk hs⟩
theorem A7.low(h:A7 w F a d):∀b,F b->b<w.heap.size:=by
 obtain⟨m1,m2,mv,gs,dv,h⟩:=h;exact h.low
theorem A7.wf(h:A7 w F a d):d.Wf:=by
 obtain⟨m1,m2,mv,gs,dv,h⟩:=h;exact h.wf
theorem bQ.more(h:bQ w F a m1 m2 mv gs dv d){G:Nat->Prop}(hF:∀b,F b->G b)(hG:∀b,G b->b<w.heap.size):bQ w G a m1 m2 mv gs dv d:=
 {h with fa:=hF _ h.fa,fm:=⟨hF _ h.fm.1,hF _ h.fm.2⟩,fg:=λg hg=>hF _ (h.fg g hg),fo:=λb hb=>hF _ (h.fo b hb),fx:=λx hx=>⟨hF _ (h.fx x hx).1,λb hb=>hF _ ((h.fx x hx).2 b hb)⟩,low:=hG}
theorem bQ.iF(h:bQ w F a m1 m2 mv gs dv d){n:Nat}{t:TypeId}{cs:Array Value}(hb:o8 w n t cs):m1≠n/\m2≠n:=by
 constructor
 ·rintro rfl;obtain⟨es,c,h1,_⟩:=h.now;unfold o8 at hb;rw[h1] at hb;cases hb
 ·rintro rfl;obtain⟨es,c,h1,_⟩:=h.safe;unfold o8 at hb;rw[h1] at hb;cases hb
theorem Q8{e:TypeId}{size:Nat}{v:Value}{n:Nat}{xs:List Value}{α β:Type}{k:TypeId}{kf:α->Value}{vf:β->Value}{P:Program}{r:Nat}{l:List (α×β)}{B:Nat}(h:w.ownsRow B e size v n xs)(hm:MapOf P k kf vf w r l):v.ownBlock≠some r:=by
 intro hv;obtain⟨es,c,h1,_⟩:=hm;rcases h.2 with⟨rfl,_⟩|⟨g,cap,cur,rfl,hg,hh,_⟩
 ·cases hv
 ·simp[Value.ownBlock] at hv;subst hv;rw[h1] at hh;cases hh
theorem Es{n1 n2:Nat}{t1 t2:TypeId}{c1 c2:Array Value}(h1:o8 w n1 t1 c1)(h2:o8 w n2 t2 c2)(ht:t1≠t2):n1≠n2:=by
 rintro rfl;unfold o8 at h1 h2;rw[h1] at h2;injection h2 with h2;injection h2 with _ h2 _;exact ht h2
theorem G8{e t:TypeId}{size:Nat}{v:Value}{n m:Nat}{xs:List Value}{B:Nat}{cs:Array Value}(h:w.ownsRow B e size v n xs)(hb:o8 w m t cs)(ht:t≠e):v.ownBlock≠some m:=ownsRow_ne h hb ht
theorem bQ.PL(h:bQ w F a m1 m2 mv gs dv d)(hO:Off a w w'){d':D}(hb:o8 w' a 174 #[.map (some m1),.map (some m2),mv,.int .i64 d'.room,.int .i64 d'.wait,.int .i64 d'.bad])
 (e1:d'.now=d.now)(e2:d'.safe=d.safe)(e3:d'.moves=d.moves)(e4:d'.ids=d.ids)(e5:d'.node=d.node)(hn:d'.wait<=9223372036854775807/\d'.bad<=9223372036854775807/\-4611686018427387904<=d'.room/\d'.room<=4611686018427387904):bQ w' F a m1 m2 mv gs dv d' where
 box:=hb
 now:=by rw[e1];exact h.now.off hO (h.iF h.box).1
 safe:=by rw[e2];exact h.safe.off hO (h.iF h.box).2
 ne:=h.ne
 rows:=by
  rw[e3];exact⟨h.rows.1,λi g l hg hl=>(hO.block g (Es (h.rows.2 i g l hg hl) h.box (by decide))).trans (h.rows.2 i g l hg hl)⟩
 outer:=by
  rw[e3];exact iV.row h.outer w' λb hb'=>hO.block b (λe=>G8 h.outer h.box (by decide) (e▸hb'))
 file:=by
  rw[e4,e5];exactλx hx=>⟨(hO.block x (Es (h.file x hx).1 h.box (by decide))).trans (h.file x hx).1,iV.row (h.file x hx).2 w' λb hb'=>hO.block b (λe=>G8 (h.file x hx).2 h.box (by decide) (e▸hb'))⟩
 apart:=by rw[e4];exact h.apart
 fa:=h.fa
 fm:=h.fm
 fg:=h.fg
 fo:=h.fo
 fx:=by rw[e4];exact h.fx
 kJ:=h.kJ.keep λb hb'=>hO.block b (λe=>G8 h.outer h.box (by decide) (e▸hb'))
 flat:=by
  rw[e4];exactλx hx=>(h.flat x hx).keep λb hb'=>hO.block b (λe=>G8 (h.file x hx).2 h.box (by decide) (e▸hb'))
 low:=λb hb=>by rw[hO.size];exact h.low b hb
 wf:=by
  obtain⟨h1,h2,h3,h4,h5⟩:=h.wf;exact⟨by rw[e1,e4];exact h1,by rw[e2,e4];exact h2,by rw[e3,e4];exact h3,by rw[e4,e5];exact h4,by rw[e4];exact h5⟩
 num:=hn
end
end
section
open Go.RowKit Go.Lib Go.Maps Dk
def wI(room:Int):D:=⟨[],[],[],room,0,0,[],λ_=>⟨[],0⟩⟩
theorem b7y(room:Int):(wI room).Wf:=⟨by simp[wI],by simp[wI],by simp[wI],by simp[wI],by simp[wI]⟩
theorem b3o(room:Int)(w:World)(hr:-4611686018427387904<=room/\room<=4611686018427387904):
 Calls prog 46 #[.int .i64 room] w λe w'=>∃a F,e=.returned (o7 a)/\A7 w' F a (wI room)/\Ext w w'/\(∀b,F b->w.heap.size<=b):=by
 have hmm:=@run_makeMap prog;go_enter func46,ntmps46
 go_wp2;go_ret;have h1:xA (w.alloc (.map #[] 0)) w.heap.size []:=MapOf.made w;have h2:xA ((w.alloc (.map #[] 0)).alloc (.map #[] 0)) (w.heap.size+1) []:=by
  have:=MapOf.made (α:=Nm) (β:=Nat) (P:=prog) (k:=9) (kf:=bC) (vf:=o7) (w.alloc (.map #[] 0));simpa using this
 have hE:Ext w (((w.alloc (.map #[] 0)).alloc (.map #[] 0)).alloc (.cells #[.map (some w.heap.size),.map (some (w.heap.size+1)),.slice none 0 0,.int .i64 room,.int .i64 0,.int .i64 0] 174)):=(((Ext.refl w).new _).new _).new _;refine⟨w.heap.size+2,λb=>w.heap.size<=b/\b<w.heap.size+3,rfl,⟨w.heap.size,w.heap.size+1,.slice none 0 0,[],λ_=>.slice none 0 0,?_⟩,hE,λb hb=>hb.1⟩;exact{
  box:=o8.new _ _ (by simp)
  now:=(h1.ext ((Ext.refl _).new _)).ext ((Ext.refl _).new _)
  safe:=h2.ext ((Ext.refl _).new _)
  ne:=by omega
  rows:=⟨rfl,by simp⟩
  outer:=⟨rfl,Or.inl ⟨rfl,rfl⟩⟩
  kJ:=λg c e fr h=>by cases h
  flat:=by simp[wI]
  file:=by simp[wI]
  apart:=by simp[wI]
  fa:=by omega
  fm:=⟨by omega,by omega⟩
  fg:=by simp
  fo:=by simp[Value.ownBlock]
  fx:=by simp[wI]
  low:=λb hb=>by simp;omega
  wf:=b7y room
  num:=⟨by simp[wI],by simp[wI],hr.1,hr.2⟩}
def TU(F:Nat->Prop)(a:Nat)(d:D)(w:World)(e:Ending)(w':World):Prop:=e=.returned (.bool d.fails.1)/\A7 w' F a d.fails.2/\Off a w w'
theorem bS(F:Nat->Prop)(a:Nat)(d:D)(w:World)(h:A7 w F a d):Calls prog 93 #[o7 a] w (TU F a d w):=by
 obtain⟨m1,m2,mv,gs,dv,h⟩:=h;have hb:=h.box;have c4:=hb.cell 4;have c5:=hb.cell 5;have f4:=hb.free 4;have f5:=hb.free 5;have hn:=h.num;have H:=ah h;clear h;have HB:=ah hb;clear hb;unfold o7;by_cases hw:0<d.wait
 ·have hs:IntKind.i64.wrap ((d.wait:Int) - 1)=((d.wait - 1:Nat):Int):=by rw[IntWalk.i64_in _ (by omega)];omega
  go_enter func93,ntmps93
  go_wp2;go_ret;unfold TU D.fails;rw[if_pos hw];refine⟨rfl,⟨m1,m2,mv,gs,dv,?_⟩,(Off.refl a w).setCell 4 _⟩;exact H.out.PL ((Off.refl a w).setCell 4 _) (by first|exact HB.out.set 4 _|(have:=HB.out.set 4 (.int .i64 ((d.wait - 1:Nat):Int));simpa using this)) rfl rfl rfl rfl rfl (by dsimp only;omega)
 ·by_cases hb:0<d.bad
  ·have hs:IntKind.i64.wrap ((d.bad:Int) - 1)=((d.bad - 1:Nat):Int):=by rw[IntWalk.i64_in _ (by omega)];omega
   go_enter func93,ntmps93
   go_wp2;go_ret;unfold TU D.fails;rw[if_neg hw,if_pos hb];refine⟨rfl,⟨m1,m2,mv,gs,dv,?_⟩,(Off.refl a w).setCell 5 _⟩;exact H.out.PL ((Off.refl a w).setCell 5 _) (by first|exact HB.out.set 5 _|(have:=HB.out.set 5 (.int .i64 ((d.bad - 1:Nat):Int));simpa using this)) rfl rfl rfl rfl rfl (by dsimp only;omega)
  ·go_enter func93,ntmps93
   go_wp2;go_ret;unfold TU D.fails;rw[if_neg hw,if_neg hb];exact⟨rfl,⟨m1,m2,mv,gs,dv,H.out⟩,Off.refl a w⟩
def ErrAt(w:World)(v:Value):Er->Prop
 | .ok=>v=.nilIface
 | .num n=>v=Z5 n
 | .file n name=>∃b,v=.iface 132 (.pointer (some ⟨b,0,none⟩))/\o8 w b 134 #[bC name,.int .i64 n]
theorem EI{w:World}{F:Nat->Prop}{n:Int}{name:Nm}(hF:∀b,F b->b<w.heap.size):
 Held (w.alloc (.cells #[bC name,.int .i64 n] 134)) F (λW=>ErrAt W (.iface 132 (.pointer (some ⟨w.heap.size,0,none⟩))) (.file n name)):=by
 have hb:o8 (w.alloc (.cells #[bC name,.int .i64 n] 134)) w.heap.size 134 #[bC name,.int .i64 n]:=o8.new _ _ rfl;exact(Held.box hb (λh=>by have:=hF _ h;omega)).mono λW hW=>⟨_,rfl,hW⟩
theorem Hu(w:World)(F:Nat->Prop):Held w F (λW=>ErrAt W .nilIface .ok):=(Held.true w F).mono λ_ _=>rfl
theorem CN(w:World)(F:Nat->Prop)(n:Int):Held w F (λW=>ErrAt W (Z5 n) (.num n)):=(Held.true w F).mono λ_ _=>rfl
def He(F:Nat->Prop)(a:Nat)(d:D)(name:Nm)(w:World)(e:Ending)(w':World):Prop:=
 ∃v,e=.returned (.tuple #[tY (d.find name).1,v])/\Held w' F (λW=>ErrAt W v (d.find name).2.1)/\A7 w' F a (d.find name).2.2/\fA F F w w'
theorem ZT(w:World):(zeroValue 170).run prog w=.ok (.pointer none) w:=by kernel_rfl
theorem Ui(F:Nat->Prop)(a:Nat)(d:D)(name:Nm)(w:World)(h:A7 w F a d)(hn:name.length<=maxLen):Calls prog 124 #[o7 a,bC name] w (He F a d name w):=by
 have kM:=bS F a d w h;have h0:=h;obtain⟨m1,m2,mv,gs,dv,h⟩:=h;have c0:=h.box.cell 0;have hlk:=h.now.look EH Ag underlying171 (ZT w) (Et hn);have hfa:=h.fa;have OO:=h.low;clear h;have HF:=ah kM;have H0:=ah h0;clear kM h0;have hlow:=OO;unfold bC o7 at *
 cases hl:D7 d.now name with
 | none=>
  rw[hl] at hlk;simp only[Option.map_none,Option.getD_none] at hlk;go_enter func124,ntmps124
  go_wp2_with fail
  refine HF.out.mono ?_;rintro e w1 ⟨rfl,hD,hO⟩;have hl1:∀b,F b->b<w1.heap.size:=hD.low;have HD:=ah hD;have HO:=ah hO;clear hD hO hlk
  cases hf:d.fails.1 with
  | true=>
   go_wp2;go_ret2
   unfold He D.find;rw[if_pos hf]
   exact⟨_,rfl,EI hl1,HD.out.ext ((Ext.refl w1).new _),(fA.off HO.out hfa).trans (fA.ext ((Ext.refl w1).new _))⟩
  | false=>
   go_wp2;go_ret2
   unfold He D.find;rw[if_neg (by rw[hf];decide),hl]
   exact⟨_,rfl,EI hl1,HD.out.ext ((Ext.refl w1).new _),(fA.off HO.out hfa).trans (fA.ext ((Ext.refl w1).new _))⟩
 | some x=>
  rw[hl] at hlk;simp only[dH,aP] at hlk;go_enter func124,ntmps124
  go_wp2_with fail
  refine HF.out.mono ?_;rintro e w1 ⟨rfl,hD,hO⟩;have hl1:∀b,F b->b<w1.heap.size:=hD.low;have HD:=ah hD;have HO:=ah hO;clear hD hO hlk
  cases hf:d.fails.1 with
  | true=>
   go_wp2;go_ret2
   unfold He D.find;rw[if_pos hf]
   exact⟨_,rfl,EI hl1,HD.out.ext ((Ext.refl w1).new _),(fA.off HO.out hfa).trans (fA.ext ((Ext.refl w1).new _))⟩
  | false=>
   go_wp2;go_ret2
   unfold He D.find;rw[if_neg (by rw[hf];decide),hl];exact⟨_,rfl,Hu _ _,HD.out,fA.off HO.out hfa⟩
end
end Go.Proofs.YtgpbhjjajpbeeaaGreatDoor
