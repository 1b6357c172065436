/- A part of what the last file proves. -/
import Derived.Test.YtgpbhjjajpbeeaaGreatDoorK02
import Derived.Maps.Keyed
import Derived.Laws.IdiomRangeMap
import Derived.Maps.OwnOps
import Derived.Maps.Views
set_option linter.all false
set_option maxRecDepth 100000
set_option maxHeartbeats 800000
namespace Go.Proofs.YtgpbhjjajpbeeaaGreatDoor
section
open Go.RowKit Go.Lib Go.Maps
section pure
variable{α β:Type}[DecidableEq α]
def q9(l:List (α×β))(x:α):Option β:=(l.find? fun p=>decide (p.1=x)).map (·.2)
def a0w(l:List (α×β))(x:α)(y:β):List (α×β):=if x∈l.map (·.1) then l.map fun p=>if p.1=x then(x,y) else p else l++[(x,y)]
def a2H(l:List (α×β))(x:α):List (α×β):=l.filter fun p=>decide (p.1≠x)
theorem b3T{l:List (α×β)}{x:α}(h:∀p∈l,p.1≠x):q9 l x=none:=by
 unfold q9;rw[List.find?_eq_none.2 (fun p hp=>by simpa using h p hp)];rfl
theorem b2t{l:List (α×β)}{j:Nat}{p:α×β}(hn:(l.map (·.1)).Nodup)(hj:l[j]?=some p):q9 l p.1=some p.2:=by
 induction l generalizing j with
 | nil=>simp at hj
 | cons q l ih=>
  rw[List.map_cons,List.nodup_cons] at hn
  cases j with
  | zero=>simp at hj;subst hj;simp[q9]
  | succ j=>
   simp at hj;have hm:p∈l:=List.mem_of_getElem? hj;have hne:¬q.1=p.1:=fun e=>hn.1 (e▸List.mem_map_of_mem hm);have:=ih hn.2 hj;unfold q9 at *;rw[List.find?_cons_of_neg (by simpa using hne)];exact this
theorem a0i{l:List (α×β)}{x:α}{y:β}(h:q9 l x=some y):(x,y)∈l:=by
 unfold q9 at h;obtain⟨p,hp,rfl⟩:=Option.map_eq_some_iff.1 h;have h1:=List.find?_some hp;have h2:=List.mem_of_find?_eq_some hp;simp at h1;rw[<-h1];exact h2
theorem b6W(l:List (α×β))(x:α)(y:β):(a0w l x y).map (·.1)=if x∈l.map (·.1) then l.map (·.1) else l.map (·.1)++[x]:=by
 unfold a0w;split
 ·rw[List.map_map];apply List.map_congr_left;intro p _;simp only[Function.comp];split
  ·rename_i h;exact h.symm
  ·rfl
 ·simp
theorem a4z{l:List (α×β)}(h:(l.map (·.1)).Nodup)(x:α)(y:β):((a0w l x y).map (·.1)).Nodup:=by
 rw[b6W];split
 ·exact h
 ·rename_i hx;rw[List.nodup_append];exact⟨h,by simp,fun a ha b hb=>by simp at hb;subst hb;exact fun e=>hx (e▸ha)⟩
theorem b3U{l:List (α×β)}(h:(l.map (·.1)).Nodup)(x:α):((a2H l x).map (·.1)).Nodup:=
 h.sublist (List.filter_sublist.map _)
theorem a4X{l:List (α×β)}{x:α}{y:β}{p:α×β}(h:p∈a0w l x y):p=(x,y)\/p∈l:=by
 unfold a0w at h;split at h
 ·obtain⟨q,hq,rfl⟩:=List.mem_map.1 h;split
  ·exact .inl rfl
  ·exact .inr hq
 ·rcases List.mem_append.1 h with h|h
  ·exact .inr h
  ·exact .inl (by simpa using h)
theorem b9n{l:List (α×β)}{x:α}{p:α×β}(h:p∈a2H l x):p∈l:=(List.mem_filter.1 h).1
end pure
theorem a0U{γ δ:Type}(f:γ->δ)(l:List γ)(j:Nat):(l.eraseIdx j).map f=(l.map f).eraseIdx j:=by
 induction l generalizing j with
 | nil=>rfl
 | cons x l ih=>cases j with
  | zero=>rfl
  | succ j=>simp[ih]
section heap
variable{α β:Type}{P:Program}{k:TypeId}{kf:α->Value}{vf:β->Value}{w:World}{r:Nat}{l:List (α×β)}
def MapOf(P:Program)(k:TypeId)(kf:α->Value)(vf:β->Value)(w:World)(r:Nat)(l:List (α×β)):Prop:=
 ∃es clock,w.heap[r]?=some (.map es clock)/\es.toList.map (fun e=>(e.key,e.val))=l.map (fun p=>(kf p.1,vf p.2))/\(∀e∈es.toList,e.born<clock)/\(es.toList.map (·.born)).Nodup/\
  (∀p∈l,∃t,keyOf P k (kf p.1)=some t)/\(l.map (·.1)).Nodup
theorem MapOf.nodup(h:MapOf P k kf vf w r l):(l.map (·.1)).Nodup:=h.choose_spec.choose_spec.2.2.2.2.2
theorem MapOf.lt(h:MapOf P k kf vf w r l):r<w.heap.size:=by
 obtain⟨es,clock,hb,_⟩:=h;rcases Nat.lt_or_ge r w.heap.size with h|h
 ·exact h
 ·rw[Array.getElem?_eq_none h] at hb;cases hb
theorem MapOf.block{w':World}(h:MapOf P k kf vf w r l)(hb:w'.heap[r]?=w.heap[r]?):MapOf P k kf vf w' r l:=by
 obtain⟨es,clock,h1,h2⟩:=h;exact⟨es,clock,hb.trans h1,h2⟩
theorem MapOf.off{w':World}{g:Nat}(h:MapOf P k kf vf w r l)(hO:Off g w w')(hg:r≠g):MapOf P k kf vf w' r l:=h.block (hO.block r hg)
theorem MapOf.ext{w':World}(h:MapOf P k kf vf w r l)(hE:Ext w w'):MapOf P k kf vf w' r l:=h.block (hE.block r h.lt)
theorem MapOf.made(w:World):MapOf (α:=α) (β:=β) P k kf vf (w.alloc (.map #[] 0)) w.heap.size []:=
 ⟨#[],0,heap_alloc_new w _,rfl,by simp,by simp,by simp,by simp⟩
theorem b3V{es:Array MapEntry}(h2:es.toList.map (fun e=>(e.key,e.val))=l.map (fun p=>(kf p.1,vf p.2))){j:Nat}{e:MapEntry}(hj:es.toList[j]?=some e):∃p,l[j]?=some p/\e.key=kf p.1/\e.val=vf p.2:=by
 have h3:(es.toList.map (fun e=>(e.key,e.val)))[j]?=some (e.key,e.val):=by rw[List.getElem?_map,hj];rfl
 rw[h2,List.getElem?_map] at h3;obtain⟨p,hp,he⟩:=Option.map_eq_some_iff.1 h3;injection he with ha hb;exact⟨p,hp,ha.symm,hb.symm⟩
theorem b9o{es:Array MapEntry}(h2:es.toList.map (fun e=>(e.key,e.val))=l.map (fun p=>(kf p.1,vf p.2))){j:Nat}{p:α×β}(hj:l[j]?=some p):∃e,es.toList[j]?=some e/\e.key=kf p.1/\e.val=vf p.2:=by
 have h3:(l.map (fun p=>(kf p.1,vf p.2)))[j]?=some (kf p.1,vf p.2):=by rw[List.getElem?_map,hj];rfl
 rw[<-h2,List.getElem?_map] at h3;obtain⟨e,he,hp⟩:=Option.map_eq_some_iff.1 h3;injection hp with ha hb;exact⟨e,he,ha,hb⟩
theorem b6X{es:Array MapEntry}(h2:es.toList.map (fun e=>(e.key,e.val))=l.map (fun p=>(kf p.1,vf p.2)))(h5:∀p∈l,∃t,keyOf P k (kf p.1)=some t):∀e∈es.toList,∃t,keyOf P k e.key=some t:=by
 intro e he;obtain⟨j,hj⟩:=List.mem_iff_getElem?.1 he;obtain⟨p,hp,hk,_⟩:=b3V h2 hj;rw[hk];exact h5 p (List.mem_of_getElem? hp)
theorem MapOf.find(h:MapOf P k kf vf w r l)(K:Keyed P k)(hinj:∀x y,kf x=kf y->x=y){x:α}{t:Lit}(hx:keyOf P k (kf x)=some t){es:Array MapEntry}{clock:Nat}(hb:w.heap[r]?=some (.map es clock)):
 ((Instr.findKey k (kf x) es.toList).run P w=.ok none w/\(∀p∈l,p.1≠x))\/∃(j:Nat)(e:MapEntry)(y:β),(Instr.findKey k (kf x) es.toList).run P w=.ok (some (j,vf y)) w/\es.toList[j]?=some e/\e.key=kf x/\e.val=vf y/\l[j]?=some (x,y):=by
 obtain⟨es',clock',hb',h2,h3,h4,h5,h6⟩:=h;rw[hb] at hb';injection hb' with hb';injection hb' with e1 e2;subst e1;subst e2;rcases K.find w hx es.toList (b6X h2 h5) with⟨h,hne⟩|⟨j,e,h,hj,he⟩
 ·refine .inl ⟨h,fun p hp e=>?_⟩;obtain⟨j,hj⟩:=List.mem_iff_getElem?.1 hp;obtain⟨e0,he0,hk,_⟩:=b9o h2 hj;exact hne e0 (List.mem_of_getElem? he0) (by rw[hk,e])
 ·obtain⟨p,hp,hk,hv⟩:=b3V h2 hj;have hpx:p.1=x:=hinj _ _ (hk.symm.trans he);subst hpx;exact .inr ⟨j,e,p.2,by rw[h,hv],hj,he,hv,hp⟩
theorem MapOf.look[DecidableEq α](h:MapOf P k kf vf w r l)(K:Keyed P k)(hinj:∀x y,kf x=kf y->x=y){t e:TypeId}(ht:P.underlying t=some (.map k e)){z:Value}(hz:(zeroValue e).run P w=.ok z w){x:α}{lt:Lit}(hx:keyOf P k (kf x)=some lt):
 (Instr.lookup t (.map (some r)) (kf x) false).run P w=.ok (((q9 l x).map vf).getD z) w:=by
 have h0:=h;obtain⟨es,clock,hb,h2,h3,h4,h5,h6⟩:=h0;rcases h.find K hinj hx hb with⟨hf,hne⟩|⟨j,e0,y,hf,hj,he,hv,hp⟩
 ·rw[b3T hne];simp[Instr.lookup,run_underlying ht,MapKept.run_getObj_map hb,K.check w es.isEmpty hx,hf,hz]
 ·have:=b2t h6 hp;rw[this];simp[Instr.lookup,run_underlying ht,MapKept.run_getObj_map hb,K.check w es.isEmpty hx,hf]
theorem a7A(w:World)(r:Nat)(o:Obj):Off r w {w with heap:=w.heap.setIfInBounds r o}:=
 ⟨rfl,rfl,rfl,by simp,fun j hj=>by simp[Array.getElem?_setIfInBounds,Ne.symm hj]⟩
theorem a4Y{w:World}{r:Nat}(h:r<w.heap.size)(o:Obj):({w with heap:=w.heap.setIfInBounds r o}:World).heap[r]?=some o:=by
 simp[Array.getElem?_setIfInBounds,h]
theorem b6Y{γ δ:Type}[DecidableEq γ]{l:List (γ×δ)}(hn:(l.map (·.1)).Nodup){i j:Nat}{p q:γ×δ}(hi:l[i]?=some p)(hj:l[j]?=some q)(h:p.1=q.1):i=j:=by
 have hi':(l.map (·.1))[i]?=some p.1:=by rw[List.getElem?_map,hi];rfl
 have hj':(l.map (·.1))[j]?=some p.1:=by rw[List.getElem?_map,hj,h];rfl
 have h1:=(List.getElem?_eq_some_iff.1 hi').1;exact(List.getElem?_inj h1 hn).1 (hi'.trans hj'.symm)
theorem MapOf.store[DecidableEq α](h:MapOf P k kf vf w r l)(K:Keyed P k)(hinj:∀x y,kf x=kf y->x=y){t e:TypeId}(ht:P.underlying t=some (.map k e)){x:α}{lt:Lit}(hx:keyOf P k (kf x)=some lt)(y:β):
 ∃w',(Instr.mapUpdate t (.map (some r)) (kf x) (vf y)).run P w=.ok () w'/\MapOf P k kf vf w' r (a0w l x y)/\Off r w w':=by
 have h0:=h;have hlt:=h.lt;obtain⟨es,clock,hb,h2,h3,h4,h5,h6⟩:=h0;have hkeys:∀p∈a0w l x y,∃t,keyOf P k (kf p.1)=some t:=by
  intro p hp;rcases a4X hp with rfl|hp
  ·exact⟨lt,hx⟩
  ·exact h5 p hp
 rcases h.find K hinj hx hb with⟨hf,hne⟩|⟨j,e0,y0,hf,hj,he,hv,hp⟩
 ·refine⟨_,by simp[Instr.mapUpdate,run_underlying ht,MapKept.run_getObj_map hb,K.check w false hx,hf,setObj,Sem.run,hb];rfl,?_,a7A w r _⟩;have hmem:x∉l.map (·.1):=by
   intro hm;obtain⟨p,hp,e⟩:=List.mem_map.1 hm;exact hne p hp e
  refine⟨_,_,a4Y hlt _,?_,?_,?_,hkeys,a4z h6 x y⟩
  ·unfold a0w;rw[if_neg hmem];simp[h2]
  ·intro e he;rw[Array.toList_push,List.mem_append] at he;rcases he with he|he
   ·have:=h3 e he;omega
   ·simp at he;subst he;simp
  ·rw[Array.toList_push,List.map_append,List.nodup_append];refine⟨h4,by simp,fun a ha b hb=>?_⟩;obtain⟨e,he,rfl⟩:=List.mem_map.1 ha;simp at hb;subst hb;exact Nat.ne_of_lt (h3 e he)
 ·have hje:es[j]?=some e0:=by simpa using hj
  have hstay:(Instr.keyThatStays (((es[j]?).map (·.key)).getD (kf x)) (kf x)).run P w=.ok (kf x) w:=by
   rw[hje];simp only[Option.map_some,Option.getD_some];rw[he];exact K.stays w hx
  refine⟨{w with heap:=w.heap.setIfInBounds r (.map (es.modify j fun e=>{e with key:=kf x,val:=vf y}) clock)},?_,?_,a7A w r _⟩
  ·simp only[Instr.mapUpdate,Sem.run_bind,run_underlying ht,Result.andThen_ok,MapKept.run_getObj_map hb,K.check w false hx,hf,hstay];simp[setObj,Sem.run,hb]
  ·have hmem:x∈l.map (·.1):=List.mem_map.2 ⟨(x,y0),List.mem_of_getElem? hp,rfl⟩;have hmod:(es.modify j fun e=>{e with key:=kf x,val:=vf y}).toList=es.toList.modify j fun e=>{e with key:=kf x,val:=vf y}:=Array.toList_modify ..;refine⟨_,clock,a4Y hlt _,?_,?_,?_,hkeys,a4z h6 x y⟩
   ·unfold a0w;rw[if_pos hmem,hmod];apply List.ext_getElem?;intro i;rw[List.getElem?_map,List.getElem?_map,List.getElem?_modify,List.getElem?_map];by_cases hij:j=i
    ·subst hij;rw[hj,hp];simp
    ·simp only[hij,if_false];have hz:(es.toList.map (fun e=>(e.key,e.val)))[i]?=(l.map (fun p=>(kf p.1,vf p.2)))[i]?:=by rw[h2]
     rw[List.getElem?_map,List.getElem?_map] at hz
     cases hl:l[i]? with
     | none=>rw[hl] at hz;simpa using hz
     | some q=>
      have hq:¬q.1=x:=fun e=>hij (b6Y h6 hp hl (by simpa using e.symm));rw[hl] at hz;simpa [hq] using hz
   ·intro e he';rw[hmod] at he';obtain⟨i,hi⟩:=List.mem_iff_getElem?.1 he';rw[List.getElem?_modify] at hi;obtain⟨e1,he1,rfl⟩:=Option.map_eq_some_iff.1 hi;have:=h3 e1 (List.mem_of_getElem? he1);split<;>exact this
   ·rw[hmod];have:(es.toList.modify j fun e=>{e with key:=kf x,val:=vf y}).map (·.born)=es.toList.map (·.born):=by
     apply List.ext_getElem?;intro i;rw[List.getElem?_map,List.getElem?_modify,List.getElem?_map]
     cases es.toList[i]? with
     | none=>rfl
     | some e=>simp;split<;>rfl
    rw[this];exact h4
theorem MapOf.drop[DecidableEq α](h:MapOf P k kf vf w r l)(K:Keyed P k)(hinj:∀x y,kf x=kf y->x=y){t e:TypeId}(ht:P.underlying t=some (.map k e)){x:α}{lt:Lit}(hx:keyOf P k (kf x)=some lt)(ty:TypeId):
 ∃w',(Builtin.delete_ #[t,k] ty #[.map (some r),kf x]).run P w=.ok (.tuple #[]) w'/\MapOf P k kf vf w' r (a2H l x)/\Off r w w':=by
 have h0:=h;have hlt:=h.lt;obtain⟨es,clock,hb,h2,h3,h4,h5,h6⟩:=h0;rcases h.find K hinj hx hb with⟨hf,hne⟩|⟨j,e0,y0,hf,hj,he,hv,hp⟩
 ·refine⟨_,by simp[Builtin.delete_,run_underlying ht,MapKept.run_getObj_map hb,K.check w es.isEmpty hx,hf,setObj,Sem.run,hb];rfl,?_,a7A w r _⟩;have hd:a2H l x=l:=List.filter_eq_self.2 (fun p hp=>by simpa using hne p hp);rw[hd];exact⟨es,clock,a4Y hlt _,h2,h3,h4,h5,h6⟩
 ·refine⟨_,by simp[Builtin.delete_,run_underlying ht,MapKept.run_getObj_map hb,K.check w es.isEmpty hx,hf,setObj,Sem.run,hb];rfl,?_,a7A w r _⟩;have hjl:j<es.size:=by
   have:=(List.getElem?_eq_some_iff.1 hj).1;simpa using this
  have her:(es.eraseIdxIfInBounds j).toList=es.toList.eraseIdx j:=by
   rw[Array.eraseIdxIfInBounds,dif_pos hjl,Array.toList_eraseIdx]
  have hd:a2H l x=l.eraseIdx j:=by
   unfold a2H;apply List.ext_getElem?;intro i;clear hf her;have hgen:∀(l:List (α×β))(j:Nat),(l.map (·.1)).Nodup->l[j]?=some (x,y0)->l.filter (fun p=>decide (p.1≠x))=l.eraseIdx j:=by
    intro l
    induction l with
    | nil=>intro j _ h;simp at h
    | cons q l ih=>
     intro j hn hj;rw[List.map_cons,List.nodup_cons] at hn
     cases j with
     | zero=>
      simp at hj;subst hj;have:l.filter (fun p=>decide (p.1≠x))=l:=List.filter_eq_self.2 (fun p hp=>by
       have:p.1≠x:=fun e=>hn.1 (by rw[<-show p.1=x from e];exact List.mem_map.2 ⟨p,hp,rfl⟩);simpa using this)
      simp only[List.eraseIdx_zero,List.tail_cons]
      rw[List.filter_cons_of_neg (by simp)];exact this
     | succ j=>
      simp at hj;have hq:q.1≠x:=fun e=>hn.1 (by rw[e];exact List.mem_map.2 ⟨(x,y0),List.mem_of_getElem? hj,rfl⟩);rw[List.filter_cons_of_pos (by simpa using hq),ih j hn.2 hj];rfl
   rw[hgen l j h6 hp]
  rw[hd];refine⟨_,clock,a4Y hlt _,?_,?_,?_,?_,?_⟩
  ·rw[her,a0U,h2,a0U]
  ·intro e he';rw[her] at he';exact h3 e (List.mem_of_mem_eraseIdx he')
  ·rw[her,a0U];exact h4.sublist (List.eraseIdx_sublist ..)
  ·intro p hp;exact h5 p (List.mem_of_mem_eraseIdx hp)
  ·rw[a0U];exact h6.sublist (List.eraseIdx_sublist ..)
theorem MapOf.len(h:MapOf P k kf vf w r l){t e:TypeId}(ht:P.underlying t=some (.map k e))(ty:TypeId):(Builtin.len_ #[t] ty #[.map (some r)]).run P w=.ok (.int .i64 l.length) w:=by
 obtain⟨es,clock,hb,h2,_⟩:=h;have:es.size=l.length:=by
  have:=congrArg List.length h2;simpa using this
 simp[Builtin.len_,run_underlying ht,MapKept.run_getObj_map hb,this,goInt]
end heap
end
namespace Dk
abbrev Nm:=List UInt8
structure Nd where
 data:List UInt8
 safe:Nat
abbrev Mv:=Nm×Option Nat
structure D where
 now:List (Nm×Nat)
 safe:List (Nm×Nat)
 moves:List (List Mv)
 room:Int
 wait:Nat
 bad:Nat
 ids:List Nat
 node:Nat->Nd
inductive Er where
 | ok
 | num (n:Int)
 | file (n:Int) (name:Nm)
 deriving DecidableEq
def Er.code:Er->Int
 | .ok=>0
 | .num n=>n
 | .file n _=>n
def Er.name:Er->Nm
 | .file _ s=>s
 | _=>[]
def o9(m:List (Nm×Nat))(l:List Mv):List (Nm×Nat):=l.foldl (fun m x=>match x.2 with|none=>a2H m x.1|some f=>a0w m x.1 f) m
theorem a4e(m:List (Nm×Nat))(l:List Mv)(x:Mv):o9 m (l++[x])=match x.2 with|none=>a2H (o9 m l) x.1|some f=>a0w (o9 m l) x.1 f:=by
 simp[o9]
def D.fails(d:D):Bool×D:=if 0<d.wait then(false,{d with wait:=d.wait - 1}) else if 0<d.bad then(true,{d with bad:=d.bad - 1}) else(false,d)
def D.find(d:D)(name:Nm):Option Nat×Er×D:=
 if d.fails.1=true then(none,.file 9 name,d.fails.2) else match q9 d.now name with
  | none=>(none,.file 11 name,d.fails.2)
  | some x=>(some x,.ok,d.fails.2)
def D.mv(d:D)(l:List Mv):D:={d with now:=o9 d.now l,moves:=d.moves++[l]}
def upd(f:Nat->Nd)(x:Nat)(y:Nd):Nat->Nd:=fun i=>if i=x then y else f i
def D.setNode(d:D)(x:Nat)(y:Nd):D:={d with node:=upd d.node x y}
def D.create(d:D)(name:Nm)(x:Nat):Er×D:=
 if d.fails.1=true then(.file 9 name,d.fails.2) else if (q9 d.fails.2.now name).isSome=true then(.file 12 name,d.fails.2)
 else(.ok,({d.fails.2 with ids:=d.fails.2.ids++[x],node:=upd d.fails.2.node x ⟨[],0⟩}:D).mv [(name,some x)])
def D.used(d:D):Nat:=(d.now.map fun p=>(d.node p.2).data.length).sum
def D.append(d:D)(name:Nm)(b:List UInt8):Er×D:=
 match d.find name with
 | (none,e,d)=>(e,d)
 | (some x,_,d)=>if d.room - d.used<b.length then(.file 10 name,d) else(.ok,d.setNode x {d.node x with data:=(d.node x).data++b})
def D.size(d:D)(name:Nm):Int×Er×D:=
 match d.find name with
 | (none,e,d)=>(0,e,d)
 | (some x,_,d)=>((d.node x).data.length,.ok,d)
def part(l:List UInt8)(at_ n:Int):List UInt8:=(l.drop (min at_.toNat l.length)).take (min n.toNat (l.length - min at_.toNat l.length))
def D.readAt(d:D)(name:Nm)(at_ n:Int):List UInt8×Er×D:=
 match d.find name with
 | (none,e,d)=>([],e,d)
 | (some x,_,d)=>(part (d.node x).data at_ n,.ok,d)
def D.sync(d:D)(name:Nm):Er×D:=
 match d.find name with
 | (none,e,d)=>(e,d)
 | (some x,_,d)=>(.ok,d.setNode x {d.node x with safe:=(d.node x).data.length})
def D.rename(d:D)(src dst:Nm):Er×D:=
 match d.find src with
 | (none,e,d)=>(e,d)
 | (some x,_,d)=>(.ok,if src=dst then d else d.mv [(dst,some x),(src,none)])
def D.remove(d:D)(name:Nm):Er×D:=
 match d.find name with
 | (none,e,d)=>(e,d)
 | (some _,_,d)=>(.ok,d.mv [(name,none)])
def D.syncDir(d:D):Er×D:=
 if d.fails.1=true then(.file 9 [],d.fails.2) else(.ok,{d.fails.2 with safe:=d.moves.foldl o9 d.safe,moves:=[]})
structure D.Wf(d:D):Prop where
 now:∀p∈d.now,p.2∈d.ids
 safe:∀p∈d.safe,p.2∈d.ids
 moves:∀l∈d.moves,∀x∈l,∀f,x.2=some f->f∈d.ids
 part:∀x∈d.ids,(d.node x).safe<=(d.node x).data.length
 ids:d.ids.Nodup
theorem a0u{m:List (Nm×Nat)}{l:List Mv}{p:Nm×Nat}(h:p∈o9 m l):p∈m\/∃x∈l,x.2=some p.2:=by
 induction l generalizing m with
 | nil=>exact .inl h
 | cons x l ih=>
  rcases ih (m:=match x.2 with|none=>a2H m x.1|some f=>a0w m x.1 f) h with h|⟨y,hy,e⟩
  ·cases hx:x.2 with
   | none=>rw[hx] at h;exact .inl (b9n h)
   | some f=>
    rw[hx] at h;rcases a4X h with rfl|h
    ·exact .inr ⟨x,by simp,hx⟩
    ·exact .inl h
  ·exact .inr ⟨y,by simp[hy],e⟩
theorem D.fails_now(d:D):d.fails.2.now=d.now/\d.fails.2.safe=d.safe/\d.fails.2.moves=d.moves/\d.fails.2.room=d.room/\d.fails.2.ids=d.ids/\d.fails.2.node=d.node:=by
 unfold D.fails;split
 ·exact⟨rfl,rfl,rfl,rfl,rfl,rfl⟩
 ·split<;>exact⟨rfl,rfl,rfl,rfl,rfl,rfl⟩
theorem D.setNode_wf{d:D}(h:d.Wf){x:Nat}{y:Nd}(hy:y.safe<=y.data.length):(d.setNode x y).Wf:=by
 refine⟨h.now,h.safe,h.moves,fun z hz=>?_,h.ids⟩;show((upd d.node x y) z).safe<=((upd d.node x y) z).data.length;unfold upd;split
 ·exact hy
 ·exact h.part z hz
end Dk
section
open Go.RowKit Go.Lib Go.Maps
section
variable{α β:Type}{P:Program}{k:TypeId}{kf:α->Value}{vf:β->Value}{w:World}{r i:Nat}{l vis:List (α×β)}
theorem nodup_lt_length:∀(n:Nat)(js:List Nat),js.Nodup->(∀j∈js,j<n)->js.length<=n:=by
 intro n
 induction n with
 | zero=>
  intro js _ h
  cases js with
  | nil=>simp
  | cons j js=>exact absurd (h j (by simp)) (by omega)
 | succ n ih=>
  intro js hn h;by_cases hm:n∈js
  ·have h1:=ih (js.erase n) (hn.erase n) (fun j hj=>by
    have h2:=(List.Nodup.mem_erase_iff hn).1 hj;have:=h j h2.2;have:=h2.1;omega)
   rw[List.length_erase_of_mem hm] at h1;omega
  ·have:=ih js hn (fun j hj=>by
    have:=h j hj;have:j≠n:=fun e=>hm (e▸hj);omega)
   omega
def K4(P:Program)(k:TypeId)(kf:α->Value)(vf:β->Value)(w:World)(i r:Nat)(l vis:List (α×β)):Prop:=
 ∃(es:Array MapEntry)(clock:Nat)(seen:Array Nat)(js:List Nat),w.heap[r]?=some (.map es clock)/\w.heap[i]?=some (.mapIter (some r) clock seen clock)/\
  es.toList.map (fun e=>(e.key,e.val))=l.map (fun p=>(kf p.1,vf p.2))/\(∀e∈es.toList,e.born<clock)/\(es.toList.map (·.born)).Nodup/\
  js.Nodup/\(∀j∈js,j<es.size)/\seen.toList=js.map (fun j=>(es[j]?.map (·.born)).getD 0)/\vis.map some=js.map (fun j=>l[j]?)
theorem K4.lt(h:K4 P k kf vf w i r l vis):i<w.heap.size/\r<w.heap.size/\i≠r:=by
 obtain⟨es,clock,seen,js,h1,h2,_⟩:=h;refine⟨?_,?_,?_⟩
 ·rcases Nat.lt_or_ge i w.heap.size with h|h
  ·exact h
  ·rw[Array.getElem?_eq_none h] at h2;cases h2
 ·rcases Nat.lt_or_ge r w.heap.size with h|h
  ·exact h
  ·rw[Array.getElem?_eq_none h] at h1;cases h1
 ·rintro rfl;rw[h1] at h2;injection h2 with h2;cases h2
theorem K4.block{w':World}(h:K4 P k kf vf w i r l vis)(hi:w'.heap[i]?=w.heap[i]?)(hr:w'.heap[r]?=w.heap[r]?):K4 P k kf vf w' i r l vis:=by
 obtain⟨es,clock,seen,js,h1,h2,h3⟩:=h;exact⟨es,clock,seen,js,hr.trans h1,hi.trans h2,h3⟩
theorem K4.length(h:K4 P k kf vf w i r l vis):vis.length<=l.length:=by
 obtain⟨es,clock,seen,js,h1,h2,h3,h4,h5,h6,h7,h8,h9⟩:=h;have e1:vis.length=js.length:=by simpa using congrArg List.length h9
 have e2:es.size=l.length:=by simpa using congrArg List.length h3
 rw[e1,<-e2];exact nodup_lt_length _ _ h6 h7
theorem K4.nodup(h:K4 P k kf vf w i r l vis)(hn:(l.map (·.1)).Nodup):(vis.map (·.1)).Nodup:=by
 obtain⟨es,clock,seen,js,h1,h2,h3,h4,h5,h6,h7,h8,h9⟩:=h;have esz:es.size=l.length:=by simpa using congrArg List.length h3
 have e:(vis.map (·.1)).map some=js.map (fun j=>(l.map (·.1))[j]?):=by
  have:=congrArg (List.map (Option.map Prod.fst)) h9;rw[List.map_map,List.map_map] at this;rw[List.map_map];refine Eq.trans ?_ (this.trans ?_)
  ·exact List.map_congr_left fun p _=>rfl
  ·exact List.map_congr_left fun j _=>by simp
 have hj:(js.map (fun j=>(l.map (·.1))[j]?)).Nodup:=by
  unfold List.Nodup at h6⊢;rw[List.pairwise_map];refine h6.imp_of_mem fun{a b}ha hb hab hc=>hab ?_;have h1:=h7 a ha;exact(List.getElem?_inj (by simp;omega) hn).1 hc
 rw[<-e] at hj;unfold List.Nodup at hj⊢;rw[List.pairwise_map] at hj;exact hj.imp fun hab hc=>hab (by rw[hc])
theorem K4.mem(h:K4 P k kf vf w i r l vis):∀p∈vis,p∈l:=by
 obtain⟨es,clock,seen,js,h1,h2,h3,h4,h5,h6,h7,h8,h9⟩:=h;intro p hp;have:some p∈js.map (fun j=>l[j]?):=by rw[<-h9];exact List.mem_map.2 ⟨p,hp,rfl⟩
 obtain⟨j,_,hj⟩:=List.mem_map.1 this;exact List.mem_of_getElem? hj
def b1s(w:World)(i:Nat):Nat:=match w.heap[i]? with|some (.mapIter _ _ seen _)=>seen.size|_=>0
theorem K4.seen(h:K4 P k kf vf w i r l vis):b1s w i=vis.length:=by
 obtain⟨es,clock,seen,js,h1,h2,h3,h4,h5,h6,h7,h8,h9⟩:=h;have e1:vis.length=js.length:=by simpa using congrArg List.length h9
 have e2:seen.size=js.length:=by rw[<-Array.length_toList,h8,List.length_map]
 unfold b1s;rw[h2,e1];exact e2
theorem MapOf.range(h:MapOf P k kf vf w r l){t e:TypeId}(ht:P.underlying t=some (.map k e)):
 ∃w',(Instr.range t (.map (some r))).run P w=.ok (.pointer (some ⟨w.heap.size,0,none⟩)) w'/\K4 P k kf vf w' w.heap.size r l []/\Ext w w'/\w'.heap.size=w.heap.size+1:=by
 have hlt:=h.lt;obtain⟨es,clock,hb,h2,h3,h4,h5,h6⟩:=h;refine⟨_,run_range_map w t k e r es clock ht hb,?_,(Ext.refl w).new _,by simp⟩;exact⟨es,clock,#[],[],by rw[heap_alloc_old w _ hlt];exact hb,heap_alloc_new w _,h2,h3,h4,List.nodup_nil,by simp,rfl,rfl⟩
theorem K4.next(h:K4 P k kf vf w i r l vis)(ty:TypeId):
 (∃p w',(Instr.next (.pointer (some ⟨i,0,none⟩)) false ty).run P w=.ok (.tuple #[.bool true,kf p.1,vf p.2]) w'/\p∈l/\K4 P k kf vf w' i r l (vis++[p])/\Off i w w'/\
   (Instr.entry (.pointer (some ⟨i,0,none⟩))).run P w'=.ok (.tuple #[kf p.1,vf p.2]) w'/\vis.length<l.length) ∨
 ((Instr.next (.pointer (some ⟨i,0,none⟩)) false ty).run P w=.ok (.tuple #[.bool false]) w/\vis.Perm l):=by
 have hl:=h.lt;obtain⟨es,clock,seen,js,h1,h2,h3,h4,h5,h6,h7,h8,h9⟩:=h;have gi:(getObj i).run P w=.ok (.mapIter (some r) clock seen clock) w:=by simp[getObj,Sem.run,h2]
 have gr:(getObj r).run P w=.ok (.map es clock) w:=MapKept.run_getObj_map h1;have htest:(!seen.isEmpty&&!es.isEmpty&&es.all (fun x=>decide (x.born ≥ clock)))=false:=next_test_false seen es clock clock h4 (Nat.le_refl _);have hold:((leftOf es seen).filter fun x=>decide (x.born<clock))=leftOf es seen:=by
  rw[Array.filter_eq_self];intro x hx;have:=h4 x (mem_left (Array.mem_toList_iff.2 hx)).1;simpa using this
 have hnew:((leftOf es seen).filter fun x=>decide (x.born ≥ clock))=#[]:=by
  rw[Array.filter_eq_empty_iff];intro x hx;have:=h4 x (mem_left (Array.mem_toList_iff.2 hx)).1;simp;omega
 have esz:es.size=l.length:=by simpa using congrArg List.length h3
 by_cases h0:(leftOf es seen).size=0
 ·refine .inr ⟨?_,?_⟩
  ·have he:leftOf es seen=#[]:=Array.eq_empty_of_size_eq_zero h0;have he':(es.filter fun e=>!seen.contains e.born)=#[]:=he;simp only[Instr.next,Sem.run_bind,gi,gr,Result.andThen_ok,htest,he'];simp[choose,Sem.run,Question.forced]
  ·have hall:=all_seen es seen h0;have hjs:js.Perm (List.range es.size):=by
    refine(List.perm_ext_iff_of_nodup h6 List.nodup_range).2 fun j=>⟨fun hj=>List.mem_range.2 (h7 j hj),fun hj=>?_⟩;have hj':=List.mem_range.1 hj;have hm:es[j]∈es.toList:=by simp
    have hc:=hall es[j] hm;have hmem:es[j].born∈seen.toList:=by simpa using hc
    rw[h8] at hmem;obtain⟨j',hj1,hj2⟩:=List.mem_map.1 hmem;have hj3:=h7 j' hj1;rw[Array.getElem?_eq_getElem hj3] at hj2;simp only[Option.map_some,Option.getD_some] at hj2;have:j'=j:=by
     have e1:(es.toList.map (·.born))[j']?=some es[j].born:=by simp[hj3,hj2]
     have e2:(es.toList.map (·.born))[j]?=some es[j].born:=by simp[hj']
     exact(List.getElem?_inj (by simpa using hj3) h5).1 (e1.trans e2.symm)
    exact this▸hj1
   have e1:(vis.map some).Perm ((List.range es.size).map fun j=>l[j]?):=by rw[h9];exact hjs.map _
   have e2:(List.range es.size).map (fun j=>l[j]?)=l.map some:=by
    rw[esz];apply List.ext_getElem?;intro j;rw[List.getElem?_map,List.getElem?_map];by_cases hj:j<l.length
    ·rw[List.getElem?_range hj];simp[hj]
    ·rw[List.getElem?_eq_none (by simpa using hj),List.getElem?_eq_none (by omega)];rfl
   rw[e2] at e1;have:=e1.filterMap id;simpa using this
 ·refine .inl ?_;generalize hL:leftOf es seen=L at *;have hL':(es.filter fun e=>!seen.contains e.born)=L:=hL;have hch:∃(j:Nat)(w1:World),j<L.size/\w1.heap=w.heap/\w1.os=w.os/\w1.tape=w.tape/\w1.output=w.output/\(choose (Question.mapNext L.size)).run P w=.ok j w1:=by
   by_cases hf:L.size<=1
   ·exact⟨0,w,by omega,rfl,rfl,rfl,rfl,by simp[choose,Sem.run,Question.forced,hf]⟩
   ·exact⟨_,w.drew,Nat.mod_lt _ (by omega),rfl,rfl,rfl,rfl,by
     simp only[choose,Sem.run,Question.forced,decide_eq_true_eq,hf,if_false,Question.cut];rfl⟩
  obtain⟨j,w1,hj,hh1,hh2,hh3,hh4,hrun⟩:=hch;have hne:L.isEmpty=false:=by simp[Array.isEmpty,h0]
  have hme:L[j]∈(leftOf es seen).toList:=by rw[hL];simp
  obtain⟨hmem,hseen⟩:=mem_left hme;obtain⟨jj,hjj⟩:=List.mem_iff_getElem?.1 hmem;obtain⟨p,hp,hk,hv⟩:=b3V h3 hjj;have hjlt:jj<es.size:=by have:=(List.getElem?_eq_some_iff.1 hjj).1;simpa using this
  have hjj':es[jj]?=some L[j]:=by simpa using hjj
  have hnot:jj∉js:=by
   intro hin;have:L[j].born∈seen.toList:=by
    rw[h8];exact List.mem_map.2 ⟨jj,hin,by rw[hjj'];rfl⟩
   have:seen.contains L[j].born=true:=by simpa using this
   rw[this] at hseen;cases hseen
  have hl1:i<w1.heap.size:=by rw[hh1];exact hl.1
  have hset:∀o':Obj,(setObj i o').run P w1=.ok () {w1 with heap:=w1.heap.setIfInBounds i o'}:=fun o'=>by
   have h2':w1.heap[i]?=some (.mapIter (some r) clock seen clock):=by rw[hh1];exact h2
   simp[setObj,Sem.run,h2']
  have hnextE:(Instr.next (.pointer (some ⟨i,0,none⟩)) false ty).run P w=.ok (.tuple #[.bool true,kf p.1,vf p.2]) {w1 with heap:=w1.heap.setIfInBounds i (.mapIter (some r) clock (seen.push L[j].born) clock)}:=by
   simp only[Instr.next,Sem.run_bind,gi,gr,Result.andThen_ok,htest,hL',hold,hnew,hne,Bool.false_eq_true,if_false,Array.append_empty,Array.empty_append,Array.size_map,hrun,Array.getElem?_map,Array.getElem?_eq_getElem hj,Option.map_some,hset];rw[<-hk,<-hv];rfl
  have hgi':({w1 with heap:=w1.heap.setIfInBounds i (.mapIter (some r) clock (seen.push L[j].born) clock)}:World).heap[i]?=some (.mapIter (some r) clock (seen.push L[j].born) clock):=a4Y hl1 _;have hgr':({w1 with heap:=w1.heap.setIfInBounds i (.mapIter (some r) clock (seen.push L[j].born) clock)}:World).heap[r]?=some (.map es clock):=by
   show(w1.heap.setIfInBounds i _)[r]?=_;rw[Array.getElem?_setIfInBounds_ne hl.2.2,hh1];exact h1
  have hlen:vis.length<l.length:=by
   have e1:vis.length=js.length:=by simpa using congrArg List.length h9
   have:=nodup_lt_length es.size (js++[jj]) (by
    rw[List.nodup_append];exact⟨h6,by simp,fun a ha b hb=>by simp at hb;subst hb;exact fun e=>hnot (e▸ha)⟩) (by
    intro a ha;rcases List.mem_append.1 ha with h|h
    ·exact h7 a h
    ·simp at h;subst h;exact hjlt)
   simp at this;omega
  refine⟨p,_,hnextE,List.mem_of_getElem? hp,?_,?_,?_,hlen⟩
  ·refine⟨es,clock,seen.push L[j].born,js++[jj],hgr',hgi',h3,h4,h5,?_,?_,?_,?_⟩
   ·rw[List.nodup_append];exact⟨h6,by simp,fun a ha b hb=>by simp at hb;subst hb;exact fun e=>hnot (e▸ha)⟩
   ·intro a ha;rcases List.mem_append.1 ha with h|h
    ·exact h7 a h
    ·simp at h;subst h;exact hjlt
   ·rw[Array.toList_push,h8,List.map_append,List.map_cons,List.map_nil,hjj'];rfl
   ·rw[List.map_append,List.map_append,h9];simp[hp]
  ·refine⟨hh2,hh3,hh4,by simp[hh1],fun q hq=>?_⟩;show(w1.heap.setIfInBounds i _)[q]?=_;rw[Array.getElem?_setIfInBounds_ne (Ne.symm hq),hh1]
  ·have hfind:es.find? (fun e=>e.born==L[j].born)=some L[j]:=by
    have:=find_born L[j] es.toList h5 hmem;simpa using this
   simp only[Instr.entry,getObj,Sem.run_bind,Sem.run,hgi',hgr',Result.andThen,Array.back?_push,bne_self_eq_false,Bool.false_eq_true,if_false,hfind];rw[<-hk,<-hv];rfl
end
end
section
open Go.RowKit Go.Lib
structure Chg(F F':Nat->Prop)(w w':World):Prop where
 os:w'.os=w.os
 tape:w'.tape=w.tape
 output:w'.output=w.output
 size:w.heap.size<=w'.heap.size
 block:∀b,b<w.heap.size->¬F b->w'.heap[b]?=w.heap[b]?
 grow:∀b,F' b->F b\/w.heap.size<=b
theorem Chg.refl(F:Nat->Prop)(w:World):Chg F F w w:=⟨rfl,rfl,rfl,Nat.le_refl _,fun _ _ _=>rfl,fun _ h=>.inl h⟩
theorem Chg.trans{F F' F'':Nat->Prop}{a b c:World}(h:Chg F F' a b)(k:Chg F' F'' b c):Chg F F'' a c:=
 ⟨k.os.trans h.os,k.tape.trans h.tape,k.output.trans h.output,Nat.le_trans h.size k.size,
  fun x hx hF=>(k.block x (Nat.lt_of_lt_of_le hx h.size) (fun hF'=>(h.grow x hF').elim hF (by omega))).trans (h.block x hx hF),
  fun x hx=>(k.grow x hx).elim (h.grow x) (fun e=>.inr (Nat.le_trans h.size e))⟩
theorem Chg.ext{F:Nat->Prop}{w w':World}(h:Ext w w'):Chg F F w w':=
 ⟨h.os,h.tape,h.output,h.size,fun b hb _=>h.block b hb,fun _ h=>.inl h⟩
theorem Chg.off{F:Nat->Prop}{g:Nat}{w w':World}(h:Off g w w')(hg:F g):Chg F F w w':=
 ⟨h.os,h.tape,h.output,Nat.le_of_eq h.size.symm,fun b _ hF=>h.block b (fun e=>hF (e▸hg)),fun _ h=>.inl h⟩
theorem Chg.below{F F':Nat->Prop}{w w':World}{B:Nat}(h:Chg F F' w w')(hF:∀b,F b->B<=b)(hB:B<=w.heap.size):Below B w w':=
 ⟨h.os,h.tape,h.output,h.size,fun b hb=>h.block b (by omega) (fun hb'=>by have:=hF b hb';omega)⟩
def Dep(S:Nat->Prop)(Φ:World->Prop)(w:World):Prop:=∀w':World,(∀b,S b->w'.heap[b]?=w.heap[b]?)->Φ w'
def Held(w:World)(F:Nat->Prop)(Φ:World->Prop):Prop:=∃S:Nat->Prop,(∀b,S b->b<w.heap.size/\¬F b)/\Dep S Φ w
theorem Held.get{w:World}{F:Nat->Prop}{Φ:World->Prop}(h:Held w F Φ):Φ w:=let ⟨_,_,h2⟩:=h;h2 w fun _ _=>rfl
theorem Held.mono{w:World}{F:Nat->Prop}{Φ Ψ:World->Prop}(h:Held w F Φ)(k:∀w,Φ w->Ψ w):Held w F Ψ:=
 let ⟨S,h1,h2⟩:=h;⟨S,h1,fun w' hw=>k w' (h2 w' hw)⟩
theorem Held.and{w:World}{F:Nat->Prop}{Φ Ψ:World->Prop}(h:Held w F Φ)(k:Held w F Ψ):Held w F (fun w=>Φ w/\Ψ w):=by
 obtain⟨S,h1,h2⟩:=h;obtain⟨T,k1,k2⟩:=k;exact⟨fun b=>S b\/T b,fun b hb=>hb.elim (h1 b) (k1 b),fun w' hw=>⟨h2 w' fun b hb=>hw b (.inl hb),k2 w' fun b hb=>hw b (.inr hb)⟩⟩
theorem Held.true(w:World)(F:Nat->Prop):Held w F (fun _=>True):=⟨fun _=>False,fun _ h=>h.elim,fun _ _=>trivial⟩
theorem Held.step{w w':World}{F F':Nat->Prop}{Φ:World->Prop}(h:Held w F Φ)(c:Chg F F' w w'):Held w' F' Φ:=by
 obtain⟨S,h1,h2⟩:=h;refine⟨S,fun b hb=>⟨Nat.lt_of_lt_of_le (h1 b hb).1 c.size,fun hF=>?_⟩,fun w'' hw=>h2 w'' fun b hb=>(hw b hb).trans (c.block b (h1 b hb).1 (h1 b hb).2)⟩;rcases c.grow b hF with h|h
 ·exact(h1 b hb).2 h
 ·have:=(h1 b hb).1;omega
theorem Held.ext{w w':World}{F:Nat->Prop}{Φ:World->Prop}(h:Held w F Φ)(hE:Ext w w'):Held w' F Φ:=h.step (Chg.ext hE)
theorem Held.of{w:World}{F S:Nat->Prop}{Φ:World->Prop}(h:Dep S Φ w)(hS:∀b,S b->b<w.heap.size/\¬F b):Held w F Φ:=⟨S,hS,h⟩
theorem Dep.box{w:World}{n:Nat}{t:TypeId}{cs:Array Value}(h:j6 w n t cs):Dep (fun b=>b=n) (fun w=>j6 w n t cs) w:=
 fun w' hw=>(hw n rfl).trans h
theorem Dep.map{α β:Type}{P:Program}{k:TypeId}{kf:α->Value}{vf:β->Value}{w:World}{r:Nat}{l:List (α×β)}(h:MapOf P k kf vf w r l):Dep (fun b=>b=r) (fun w=>MapOf P k kf vf w r l) w:=
 fun w' hw=>h.block (hw r rfl)
theorem Dep.row{w:World}{B:Nat}{e:TypeId}{size:Nat}{v:Value}{n:Nat}{xs:List Value}(h:w.ownsRow B e size v n xs):Dep (fun b=>v.ownBlock=some b) (fun w=>w.ownsRow B e size v n xs) w:=by
 intro w' hw;obtain⟨h1,h2⟩:=h;refine⟨h1,?_⟩;rcases h2 with h2|⟨g,cap,cur,rfl,hg,hh,r⟩
 ·exact Or.inl h2
 ·exact Or.inr ⟨g,cap,cur,rfl,hg,(hw g rfl).trans hh,r⟩
theorem Dep.ownB{w:World}{B:Nat}{v:Value}{l:List UInt8}(h:J8 w B v l):Dep (fun b=>v.ownBlock=some b) (fun w=>J8 w B v l) w:=Dep.row h
theorem Dep.slice{w:World}{v:Value}{n:Nat}{xs:List Value}(h:U9 w v n xs):Dep (fun b=>xs≠[]/\∃a n c,v=.slice (some a) n c/\a.block=b) (fun w=>U9 w v n xs) w:=by
 intro w' hw;obtain⟨a,cap,rfl,h1,h2,h3⟩:=h;refine⟨a,cap,rfl,h1,h2,fun hx=>?_⟩;obtain⟨b,rfl,hc⟩:=h3 hx;refine⟨b,rfl,fun i x hi=>?_⟩;have e:(b.add i).block=b.block:=by unfold Addr.add;split<;>rfl
 rw[<-hc i x hi];exact World.cell?_of_block (w:=w) (by rw[e];exact hw b.block ⟨hx,_,_,_,rfl,rfl⟩)
theorem j6.lt{w:World}{n:Nat}{t:TypeId}{cs:Array Value}(h:j6 w n t cs):n<w.heap.size:=lt_of_block h
theorem a7Y{w:World}{B:Nat}{e:TypeId}{size:Nat}{v:Value}{n:Nat}{xs:List Value}(h:w.ownsRow B e size v n xs){b:Nat}(hb:v.ownBlock=some b):b<w.heap.size:=(h.lt b hb).2
theorem Held.box{w:World}{F:Nat->Prop}{n:Nat}{t:TypeId}{cs:Array Value}(h:j6 w n t cs)(hF:¬F n):Held w F (fun w=>j6 w n t cs):=
 .of (.box h) fun b e=>by subst e;exact⟨h.lt,hF⟩
theorem Held.ownB{w:World}{F:Nat->Prop}{B:Nat}{v:Value}{l:List UInt8}(h:J8 w B v l)(hF:∀b,v.ownBlock=some b->¬F b):Held w F (fun w=>J8 w B v l):=
 .of (.ownB h) fun b e=>⟨a7Y h e,hF b e⟩
theorem Held.bytes{w:World}{F:Nat->Prop}{v:Value}{l:List UInt8}(h:Bytes w v l)(hF:∀a n c,v=.slice (some a) n c->¬F a.block):Held w F (fun w=>Bytes w v l):=by
 refine .of (.slice h) fun b⟨hx,a,n,c,hv,hb⟩=>?_;subst hb;refine⟨?_,hF a n c hv⟩;obtain⟨a',cap,hv',h1,h2,h3⟩:=h;obtain⟨b,hb,hc⟩:=h3 hx;rw[hv] at hv';injection hv' with e1;rw[<-e1] at hb;injection hb with hb;subst hb
 cases hl:l.map byteV with
 | nil=>exact absurd hl hx
 | cons x xs=>
  have:=World.block_lt_of_cell? w _ (hc 0 x (by rw[hl];rfl));have e:(a.add 0).block=a.block:=by unfold Addr.add;split<;>rfl
  rw[e] at this;exact this
end
section
open Go.RowKit Go.Lib Pl Go.Maps
def U8(n:Int):Bool:=decide (1<=n)&&decide (n<=999999)
def U1(l:List Int):Bool:=decide (l.length<=60)&&(l.all U8&&decide l.Nodup)
theorem a4x:Keyed Tryz.prog 3:=int_keyed Tryz.underlying3
theorem a7z(w:World):(zeroValue 3).run Tryz.prog w=.ok (.int .i64 0) w:=by kernel_rfl
def seen{H:Type}(D:DataW H)(l:List Int)(k:Nat):Prop:=∀x:Int,D.atKey (.int .i64 x) (.lit (.int .i64 0))=.lit (.int .i64 (if x∈l.take k then 1 else 0))
def a4y(l:List Int)(k:Nat):Prop:=(l.take k).all U8=true/\(l.take k).Nodup
theorem a2F{n:Int}(h1:-1000<=n)(h2:n<=1000):wrap64 n=n:=by unfold wrap64;omega
theorem b5j{H:Type}{D:DataW H}{l:List Int}{k:Nat}{x c c2:Int}(hm:IsMap D)(hs:seen D l k)(hat:D.atKey (.int .i64 x) (.lit (.int .i64 0))=.lit (.int .i64 c))
 (hat2:(D.put (.int .i64 x) (.lit (.int .i64 (wrap64 (c+1))))).atKey (.int .i64 x) (.lit (.int .i64 0))=.lit (.int .i64 c2)):
 c=(if x∈l.take k then 1 else 0)/\c2=c+1:=by
 have h1:=(hs x).symm.trans hat;injection h1 with h1;injection h1 with _ h1;rw[atKey_put_same hm (by simp[WideAt.IsKeyLit])] at hat2;injection hat2 with h2;injection h2 with _ h2;refine⟨h1.symm,?_⟩;rw[<-h2];have:c=0\/c=1:=by rw[<-h1];split<;>simp
 rcases this with rfl|rfl
 ·exact a2F (by omega) (by omega)
 ·exact a2F (by omega) (by omega)
theorem b6q{H:Type}{D:DataW H}{l:List Int}{k:Nat}{x:Int}(hm:IsMap D)(hs:seen D l k)(hk:k<l.length)(hx:l[k]=x)(h0:x∉l.take k):
 seen (D.put (.int .i64 x) (.lit (.int .i64 1))) l (k+1):=by
 intro y;rw[L8 l k hk,hx];by_cases hy:y=x
 ·subst hy;rw[atKey_put_same hm (by simp[WideAt.IsKeyLit])];simp
 ·rw[atKey_put_other (by intro e;injection e with _ e;exact hy e),hs y];simp[hy]
theorem a6v{l:List Int}{k:Nat}{x:Int}(hg:a4y l k)(hk:k<l.length)(hx:l[k]=x)(hr:U8 x=true)(h0:x∉l.take k):a4y l (k+1):=by
 unfold a4y at *;rw[L8 l k hk,hx];refine⟨by simp[hg.1,hr],?_⟩;rw[List.nodup_append];exact⟨hg.2,by simp,fun a ha b hb=>by simp at hb;subst hb;exact fun e=>h0 (e▸ha)⟩
theorem a1Q{l:List Int}{k:Nat}{x:Int}(hk:k<l.length)(hx:l[k]=x)(hr:U8 x=false):U1 l=false:=by
 have:l.all U8=false:=by
  rw[List.all_eq_false];exact⟨x,hx▸List.getElem_mem hk,by simp[hr]⟩
 unfold U1;rw[this];simp
theorem a9W{l:List Int}{k:Nat}{x:Int}(hk:k<l.length)(hx:l[k]=x)(h0:x∈l.take k):U1 l=false:=by
 have:¬l.Nodup:=by
  intro hn;have h1:(l.take (k+1)).Nodup:=hn.sublist (List.take_sublist _ _);rw[L8 l k hk,hx,List.nodup_append] at h1;exact h1.2.2 x h0 x (by simp) rfl
 unfold U1;rw[decide_eq_false this];simp
theorem b2k{H:Type}(v:Value)(l:List Int)(w:World)(h:Ints w v l)(hw:∀n∈l,(Lit.int .i64 n).wf=true):
 Calls Tryz.prog 149 #[v] w fun e w'=>e=.returned (.bool (U1 l))/\Ext w w':=by
 obtain⟨a,cap,rfl,hc,hc',-⟩:=h.open;have HI:=Lib.hid h;clear h;have hmm:=@run_makeMap Tryz.prog;go_enter Tryz.func149,Tryz.ntmps149
 go_wp2;go_loopw [9] (fun i wr=>∃k:Nat,k<=l.length/\i=.int .i64 k/\a4y l k/\(∃D:DataW H,wr.ownsMap Tryz.prog 3 (plainElem Tryz.prog 3) w.heap.size k D/\seen D l k)/\Ext w wr) (fun i _=>l.length - (intOf i).toNat)
 case atStart=>exact⟨0,Nat.zero_le _,rfl,⟨rfl,List.nodup_nil⟩,⟨.map [],World.ownsMap_made _ _ _ _,fun x=>by simp[DataW.atKey]⟩,(Ext.refl w).new _⟩
 case round=>
  obtain⟨k,hk,rfl,hg,⟨D,hown,hseen⟩,hE⟩:=hrel;by_cases hlt:k<l.length
  ·obtain⟨b,rfl,hb⟩:∃b,a=some b/\wr.cell? (b.add k)=some (.int .i64 (l[k])):=by
    obtain⟨a',c',e,_,_,hf⟩:=(HI.out.ext hE).open;injection e with e1;subst e1;exact hf k hlt
   have hwx:=hw _ (List.getElem_mem hlt);have hkey:keyOf Tryz.prog 3 (.int .i64 l[k])=some (.int .i64 l[k]):=keyOf_int_mk Tryz.underlying3 hwx;have HG:=Lib.hid hg;have HS:=Lib.hid hseen;have HE:=Lib.hid hE;clear hg hseen hE;generalize hx:l[k]=x at *;obtain⟨c,hc01,hcx⟩:∃c:Int,(c=0\/c=1)/\c=(if x∈l.take k then 1 else 0):=⟨_,by split<;>simp,rfl⟩;by_cases hr:1<=x/\x<=999999
   ·have hr1:¬x<1:=by omega
    have hr2:¬999999<x:=by omega
    go_wp2_with (first|(at_lookup;refine wpList_lookup_own_int _ rfl _ _ 312 rfl 3 3 .i64 a4x Tryz.underlying312 Tryz.underlying3 (a7z _) w.heap.size _ _ rfl hown _ _ rfl hkey ?_;intro c' hat hwc)|(at_mapUpdate;refine wpList_mapUpdate_own _ rfl _ _ _ 312 rfl 3 3 a4x Tryz.underlying312 _ w.heap.size k _ rfl hown (by unfold maxLen;omega) _ _ _ rfl rfl hkey _ [] (plainElem_int Tryz.underlying3 (wrap64_wf _)) ?_;intro w1 hown1 hgrow1;obtain⟨c2,hrun2,hat2,hwc2⟩:=hown1.lookup_int a4x Tryz.underlying312 Tryz.underlying3 (a7z _) hkey)|go_in)
    ·obtain⟨e1,e2⟩:=b5j hown.isMap HS.out hat hat2;have hmem:x∈l.take k:=by
      by_cases hm:x∈l.take k
      ·exact hm
      ·rw[if_neg hm] at e1;omega
     go_ret;exact⟨by rw[a9W hlt hx hmem];rfl,HE.out.grown hgrow1 HE.out.size (fun j hj=>by cases hj;exact Nat.le_refl _)⟩
    ·obtain⟨e1,e2⟩:=b5j hown.isMap HS.out hat hat2;have hmem:x∉l.take k:=by
      intro hm;rw[if_pos hm] at e1;omega
     obtain rfl:c'=0:=by rw[if_neg hmem] at e1;exact e1
     rw[show wrap64 (0+1)=1 from a2F (by omega) (by omega)] at hown1;go_roundw
     case rel=>exact⟨k+1,by omega,by go_num,a6v HG.out hlt hx (by unfold U8;rw[decide_eq_true hr.1,decide_eq_true hr.2];rfl) hmem,⟨_,hown1,b6q hown.isMap HS.out hlt hx hmem⟩,HE.out.grown hgrow1 HE.out.size (fun j hj=>by cases hj;exact Nat.le_refl _)⟩
     case measure=>simp[intOf];omega
   ·have hrf:U8 x=false:=by
     unfold U8;by_cases h1:1<=x
     ·rw[decide_eq_false (show ¬x<=999999 from fun h2=>hr ⟨h1,h2⟩)];simp
     ·rw[decide_eq_false h1];rfl
    by_cases h1:x<1
    ·go_wp2_with (first|(at_lookup;refine wpList_lookup_own_int _ rfl _ _ 312 rfl 3 3 .i64 a4x Tryz.underlying312 Tryz.underlying3 (a7z _) w.heap.size _ _ rfl hown _ _ rfl hkey ?_;intro c' hat hwc)|(at_mapUpdate;refine wpList_mapUpdate_own _ rfl _ _ _ 312 rfl 3 3 a4x Tryz.underlying312 _ w.heap.size k _ rfl hown (by unfold maxLen;omega) _ _ _ rfl rfl hkey _ [] (plainElem_int Tryz.underlying3 (wrap64_wf _)) ?_;intro w1 hown1 hgrow1)|go_in)
     go_ret;exact⟨by rw[a1Q hlt hx hrf];rfl,HE.out.grown hgrow1 HE.out.size (fun j hj=>by cases hj;exact Nat.le_refl _)⟩
    ·have h2:999999<x:=by omega
     go_wp2_with (first|(at_lookup;refine wpList_lookup_own_int _ rfl _ _ 312 rfl 3 3 .i64 a4x Tryz.underlying312 Tryz.underlying3 (a7z _) w.heap.size _ _ rfl hown _ _ rfl hkey ?_;intro c' hat hwc)|(at_mapUpdate;refine wpList_mapUpdate_own _ rfl _ _ _ 312 rfl 3 3 a4x Tryz.underlying312 _ w.heap.size k _ rfl hown (by unfold maxLen;omega) _ _ _ rfl rfl hkey _ [] (plainElem_int Tryz.underlying3 (wrap64_wf _)) ?_;intro w1 hown1 hgrow1)|go_in)
     go_ret;exact⟨by rw[a1Q hlt hx hrf];rfl,HE.out.grown hgrow1 HE.out.size (fun j hj=>by cases hj;exact Nat.le_refl _)⟩
  ·go_wp2;go_ret;obtain rfl:k=l.length:=by omega
   unfold a4y at hg;rw[List.take_length] at hg;refine⟨?_,hE⟩;unfold U1;rw[hg.1,decide_eq_true hg.2,Bool.and_self,Bool.and_true];simp;omega
end
section
open Go.RowKit Go.Lib Pl
def a0v(l:List Int):List UInt8:=l.flatMap fun n=>be n.toNat 4
def a0T(gen:Nat)(l:List Int):List UInt8:=be gen 8++be l.length 2++a0v l
theorem b06(l:List Int)(n:Int):a0v (l++[n])=a0v l++be n.toNat 4:=by simp[a0v]
theorem a1z(l:List Int):(a0v l).length=4*l.length:=by
 induction l with
 | nil=>rfl
 | cons x l ih=>simp only[a0v,List.flatMap_cons,List.length_append,D9,List.length_cons] at *;omega
end
end Go.Proofs.YtgpbhjjajpbeeaaGreatDoor
