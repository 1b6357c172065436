/- A part of what the last file proves. -/
import Derived.Test.YtgpbhjjajpbeeaaGreatDoorR07
import Derived.Conc.WgGenN
import Derived.Conc.WgGenN3
import Derived.Conc.MuWords
import Derived.Below
set_option linter.all false
set_option maxRecDepth 100000
set_option maxHeartbeats 8000000
namespace Go.Bi
section
structure Sit where
 ren:Nat->Nat
 D:Nat->Prop
 F:FuncId->Prop
 T:TypeId->Prop
 W:Nat->Prop
 K:Tmp->Value
 Kd:List Deferred
 Kk:CallKind
variable(S:Sit)
def rA(a:Addr):Addr:={a with block:=S.ren a.block}
@[simp] theorem b3z (a:Addr):(rA S a).off=a.off:=rfl
@[simp] theorem c08 (a:Addr):(rA S a).spot=a.spot:=rfl
@[simp] theorem b1Z (a:Addr):(rA S a).block=S.ren a.block:=rfl
theorem a1Z(a:Addr)(n:Nat):rA S (a.add n)=(rA S a).add n:=by
 unfold Addr.add;split<;>rfl
theorem add_block(a:Addr)(n:Nat):(a.add n).block=a.block:=by unfold Addr.add;split<;>rfl
inductive FnR:Fn->Fn->Prop
 | func (f:FuncId) (h:S.F f):FnR (.func f) (.func f)
inductive VR:Value->Value->Prop
 | bool (b:Bool):VR (.bool b) (.bool b)
 | int (k:IntKind) (n:Int):VR (.int k n) (.int k n)
 | string (s:ByteArray):VR (.string s) (.string s)
 | pnil:VR (.pointer none) (.pointer none)
 | ptr (a:Addr) (h:S.D a.block):VR (.pointer (some a)) (.pointer (some (rA S a)))
 | snil (n c:Nat):VR (.slice none n c) (.slice none n c)
 | slice (a:Addr) (n c:Nat) (h:S.D a.block):VR (.slice (some a) n c) (.slice (some (rA S a)) n c)
 | func (fn fn':Fn) (f f' c c':Array Value) (h:FnR S fn fn') (hf:f.size=f'.size) (hf':∀(i:Nat)(h1:i<f.size)(h2:i<f'.size),VR f[i] f'[i])
  (hc:c.size=c'.size)(hc':∀(i:Nat)(h1:i<c.size)(h2:i<c'.size),VR c[i] c'[i]):VR (.func fn f c) (.func fn' f' c')
 | iface (t:TypeId) (v v':Value) (ht:S.T t) (h:VR v v'):VR (.iface t v) (.iface t v')
 | nilIface:VR .nilIface .nilIface
 | agg (c c':Array Value) (hc:c.size=c'.size) (hc':∀(i:Nat)(h1:i<c.size)(h2:i<c'.size),VR c[i] c'[i]):VR (.agg c) (.agg c')
 | tuple (c c':Array Value) (hc:c.size=c'.size) (hc':∀(i:Nat)(h1:i<c.size)(h2:i<c'.size),VR c[i] c'[i]):VR (.tuple c) (.tuple c')
structure AR(c c':Array Value):Prop where
 size:c.size=c'.size
 at_:∀(i:Nat)(h1:i<c.size)(h2:i<c'.size),VR S c[i] c'[i]
section
variable{S}
theorem VR.agg'{c c':Array Value}(h:AR S c c'):VR S (.agg c) (.agg c'):=.agg c c' h.size h.at_
theorem VR.tuple'{c c':Array Value}(h:AR S c c'):VR S (.tuple c) (.tuple c'):=.tuple c c' h.size h.at_
theorem AR.get?{c c':Array Value}(h:AR S c c')(i:Nat):(c[i]?=none/\c'[i]?=none)\/∃v v',c[i]?=some v/\c'[i]?=some v'/\VR S v v':=by
 by_cases hi:i<c.size
 ·exact .inr ⟨c[i],c'[i]'(h.size▸hi),by simp[hi],by simp[h.size▸hi],h.at_ i hi _⟩
 ·exact .inl ⟨by simp[hi],by simp[h.size▸hi]⟩
theorem AR.of_get?{c c':Array Value}(h:∀i:Nat,(c[i]?=none/\c'[i]?=none)\/∃v v',c[i]?=some v/\c'[i]?=some v'/\VR S v v'):AR S c c':=by
 have hs:c.size=c'.size:=by
  rcases Nat.lt_trichotomy c.size c'.size with h1|h1|h1
  ·rcases h c.size with⟨_,e⟩|⟨v,v',e,_⟩
   ·rw[Array.getElem?_eq_none_iff] at e;omega
   ·simp at e
  ·exact h1
  ·rcases h c'.size with⟨e,_⟩|⟨v,v',_,e,_⟩
   ·rw[Array.getElem?_eq_none_iff] at e;omega
   ·simp at e
 refine⟨hs,fun i h1 h2=>?_⟩;rcases h i with⟨e,_⟩|⟨v,v',e,e',hv⟩
 ·rw[Array.getElem?_eq_none_iff] at e;omega
 ·rw[Array.getElem?_eq_getElem h1] at e;rw[Array.getElem?_eq_getElem h2] at e';injection e with e;injection e' with e';rw[e,e'];exact hv
theorem AR.nil:AR S #[] #[]:=⟨rfl,fun i h=>by simp at h⟩
theorem AR.push{c c':Array Value}(h:AR S c c'){v v':Value}(hv:VR S v v'):AR S (c.push v) (c'.push v'):=by
 refine AR.of_get? fun i=>?_;rw[Array.getElem?_push,Array.getElem?_push,h.size];split
 ·exact .inr ⟨v,v',rfl,rfl,hv⟩
 ·exact h.get? i
theorem AR.one{v v':Value}(hv:VR S v v'):AR S #[v] #[v']:=AR.nil.push hv
theorem AR.append{c c' d d':Array Value}(h:AR S c c')(k:AR S d d'):AR S (c++d) (c'++d'):=by
 refine AR.of_get? fun i=>?_;rw[Array.getElem?_append,Array.getElem?_append,h.size];split
 ·exact h.get? i
 ·exact k.get? _
theorem AR.set{c c':Array Value}(h:AR S c c')(i:Nat){v v':Value}(hv:VR S v v'):AR S (c.setIfInBounds i v) (c'.setIfInBounds i v'):=by
 refine AR.of_get? fun j=>?_;rw[Array.getElem?_setIfInBounds,Array.getElem?_setIfInBounds,h.size];split
 ·split
  ·exact .inr ⟨v,v',rfl,rfl,hv⟩
  ·exact .inl ⟨rfl,rfl⟩
 ·exact h.get? j
theorem AR.replicate(n:Nat){v v':Value}(hv:VR S v v'):AR S (Array.replicate n v) (Array.replicate n v'):=
 ⟨by simp,fun i h1 h2=>by simpa using hv⟩
theorem AR.getD{c c':Array Value}(h:AR S c c')(i:Nat){v v':Value}(hv:VR S v v'):VR S (c.getD i v) (c'.getD i v'):=by
 rw[Array.getD_eq_getD_getElem?,Array.getD_eq_getD_getElem?];rcases h.get? i with⟨e,e'⟩|⟨x,x',e,e',hx⟩
 ·rw[e,e'];exact hv
 ·rw[e,e'];exact hx
end
inductive LR{α β:Type}(R:α->β->Prop):List α->List β->Prop
 | nil:LR R [] []
 | cons {a:α} {b:β} {l:List α} {k:List β} (h:R a b) (t:LR R l k):LR R (a::l) (b::k)
def c09(fr' fr:Nat×Nat):Prop:=∀i,fr'.1<=i->i<fr'.2->fr.1<=i/\i<fr.2
theorem c09.refl(fr:Nat×Nat):c09 fr fr:=fun _ h k=>⟨h,k⟩
inductive a7v:Obj->Obj->Prop
 | cells (c c':Array Value) (e:TypeId) (fr fr':Nat×Nat) (h:AR S c c') (hf:c09 fr' fr):a7v (.cells c e fr) (.cells c' e fr')
 | number (a:Addr) (lost:Bool) (h:S.D a.block):a7v (.number a lost) (.number (rA S a) lost)
def MarkOK:Mark->Prop
 | .extern _=>True
 | .noRoom=>True
 | _=>False
def Hs(P:Program){α:Type}:Sem α->Prop
 | .halt _=>True
 | .pure _=>False
 | .load _ _ k=>∀v,Hs P (k v)
 | .store _ _ _ k=>Hs P k
 | .new _ k=>∀r,Hs P (k r)
 | .shape _ k=>∀s,Hs P (k s)
 | .freeze _ _ k=>Hs P k
 | .frozen _ k=>∀b,Hs P (k b)
 | .getObj _ k=>∀o,Hs P (k o)
 | .setObj _ _ k=>Hs P k
 | .choose _ k=>∀n,Hs P (k n)
 | .sys _ k=>∀r,Hs P (k r)
 | .program k=>Hs P (k P)
 | .mark _ k=>Hs P k
theorem Hs.bind{P:Program}{α β:Type}{s:Sem α}{f:α->Sem β}(h:Hs P s):Hs P (s >>= f):=by
 show Hs P (s.bind f)
 induction s with
 | halt _=>trivial
 | pure _=>exact h.elim
 | load _ _ k ih=>exact fun v=>ih v (h v)
 | store _ _ _ k ih=>exact ih h
 | new _ k ih=>exact fun v=>ih v (h v)
 | shape _ k ih=>exact fun v=>ih v (h v)
 | freeze _ _ k ih=>exact ih h
 | frozen _ k ih=>exact fun v=>ih v (h v)
 | getObj _ k ih=>exact fun v=>ih v (h v)
 | setObj _ _ k ih=>exact ih h
 | choose _ k ih=>exact fun v=>ih v (h v)
 | sys _ k ih=>exact fun v=>ih v (h v)
 | program k ih=>exact ih _ h
 | mark _ k ih=>exact ih h
theorem Hs.behind{P:Program}{α β:Type}(s:Sem α){f:α->Sem β}(h:∀a,Hs P (f a)):Hs P (s >>= f):=by
 show Hs P (s.bind f)
 induction s with
 | halt _=>trivial
 | pure a=>exact h a
 | load _ _ k ih=>exact fun v=>ih v
 | store _ _ _ k ih=>exact ih
 | new _ k ih=>exact fun v=>ih v
 | shape _ k ih=>exact fun v=>ih v
 | freeze _ _ k ih=>exact ih
 | frozen _ k ih=>exact fun v=>ih v
 | getObj _ k ih=>exact fun v=>ih v
 | setObj _ _ k ih=>exact ih
 | choose _ k ih=>exact fun v=>ih v
 | sys _ k ih=>exact fun v=>ih v
 | program k ih=>exact ih _
 | mark _ k ih=>exact ih
theorem Hs.run{P:Program}{α:Type}{s:Sem α}(h:Hs P s){w u:World}{a:α}:s.run P w≠.ok a u:=by
 induction s generalizing w with
 | halt _=>exact fun e=>by cases e
 | pure _=>exact h.elim
 | load m a k ih=>
  intro e;simp only[Sem.run] at e;split at e
  ·exact ih _ (h _) e
  ·split at e
   ·exact ih _ (h _) e
   ·cases e
 | store m x v k ih=>
  intro e;have e1:(Sem.store m x v k).run P w=.halt (.stuck "store: not the value of one cell") w\/(Sem.store m x v k).run P w=match w.cell? x with|some _=>if w.frozen? x then .halt (.unsupported (.unsafePointer "a write to bytes that a string shares")) w else k.run P (w.setCell x v)|none=>match w.farStore P x v (m==.atomic) with|.ok (w,_)=>k.run P w|.error h=>.halt h w:=by
   cases v<;>first|exact .inl rfl|exact .inr rfl
  rcases e1 with e1|e1
  ·rw[e1] at e;cases e
  rw[e1] at e;split at e
  ·split at e
   ·cases e
   ·exact ih h (w:=w.setCell x v) e
  ·split at e
   ·exact ih h e
   ·cases e
 | new o k ih=>exact fun e=>ih _ (h _) (w:={w with heap:=w.heap.push o}) e
 | shape r k ih=>exact fun e=>ih _ (h _) e
 | freeze x n k ih=>exact fun e=>ih h (w:=w.freeze x n) e
 | frozen a k ih=>exact fun e=>ih _ (h _) e
 | getObj r k ih=>
  intro e;simp only[Sem.run] at e;split at e
  ·cases e
  ·exact ih _ (h _) e
  ·cases e
 | setObj r o k ih=>
  intro e;simp only[Sem.run] at e;split at e
  ·cases e
  ·exact ih h (w:={w with heap:=w.heap.setIfInBounds r o}) e
  ·cases e
 | choose q k ih=>
  intro e;simp only[Sem.run] at e;split at e
  ·exact ih _ (h _) e
  ·exact ih _ (h _) (w:={w with drawn:=w.drawn+1}) e
 | sys c k ih=>exact fun e=>ih _ (h _) (w:=(w.sys c).2) e
 | program k ih=>exact fun e=>ih _ h e
 | mark m k ih=>exact fun e=>ih h e
def Im(P:Program){α β:Type}(R:α->β->Prop):Sem α->Sem β->Prop
 | .halt _,_=>True
 | .pure a,.pure b=>R a b
 | .load m a k,.load m' a' k'=>m=.plain/\m'=.plain/\S.D a.block/\a'=rA S a/\∀v v',VR S v v'->Im P R (k v) (k' v')
 | .store m a v k,.store m' a' v' k'=>m=.plain/\m'=.plain/\S.D a.block/\a'=rA S a/\VR S v v'/\Im P R k k'
 | .new o k,.new o' k'=>a7v S o o'/\∀r,S.D r->Im P R (k r) (k' (S.ren r))
 | .shape r k,s'=>(∀s,Hs P (k s))\/(match s' with|.shape r' k'=>S.D r/\r'=S.ren r/\∀s,Im P R (k s) (k' s)|_=>False)
 | .getObj r k,.getObj r' k'=>S.D r/\r'=S.ren r/\∀a l,S.D a.block->Im P R (k (.number a l)) (k' (.number (rA S a) l))
 | .choose q k,.choose q' k'=>q'=q/\∀n,Im P R (k n) (k' n)
 | .program k,.program k'=>Im P R (k P) (k' P)
 | .mark m k,.mark m' k'=>m'=m/\MarkOK m/\Im P R k k'
 | _,_=>False
section
variable{S}{P:Program}
theorem Im.halt{α β:Type}{R:α->β->Prop}(x:Halt)(s:Sem β):Im S P R (.halt x) s:=by cases s<;>trivial
theorem Im.shape_elim{α β:Type}{R:α->β->Prop}{r:Nat}{k:Option (TypeId×Nat)->Sem α}{s':Sem β}(h:Im S P R (.shape r k) s'):(∀s,Hs P (k s))\/∃k',s'=.shape (S.ren r) k'/\S.D r/\∀s,Im S P R (k s) (k' s):=by
 cases s'<;>rcases h with h|h<;>first|exact .inl h|exact h.elim|exact .inr ⟨_,by rw[h.2.1],h.1,h.2.2⟩
theorem Im.shape_hs{α β:Type}{R:α->β->Prop}{r:Nat}{k:Option (TypeId×Nat)->Sem α}{s':Sem β}(h:∀s,Hs P (k s)):Im S P R (.shape r k) s':=by
 cases s'<;>exact .inl h
theorem Im.bind{α α' β β':Type}{R:α->α'->Prop}{Q:β->β'->Prop}{s:Sem α}{s':Sem α'}{f:α->Sem β}{f':α'->Sem β'}(h:Im S P R s s')(hf:∀a a',R a a'->Im S P Q (f a) (f' a')):
 Im S P Q (s >>= f) (s' >>= f'):=by
 show Im S P Q (s.bind f) (s'.bind f')
 induction s generalizing s' with
 | halt _=>exact Im.halt _ _
 | getObj r k ih=>cases s'<;>first|exact h.elim|exact⟨h.1,h.2.1,fun a l ha=>ih _ (h.2.2 a l ha)⟩
 | setObj r o k ih=>cases s'<;>exact h.elim
 | pure a=>cases s'<;>first|exact hf _ _ h|exact h.elim
 | load m a k ih=>cases s'<;>first|exact h.elim|exact⟨h.1,h.2.1,h.2.2.1,h.2.2.2.1,fun v v' hv=>ih v (h.2.2.2.2 v v' hv)⟩
 | store m a v k ih=>cases s'<;>first|exact h.elim|exact⟨h.1,h.2.1,h.2.2.1,h.2.2.2.1,h.2.2.2.2.1,ih h.2.2.2.2.2⟩
 | new o k ih=>cases s'<;>first|exact h.elim|exact⟨h.1,fun r hr=>ih r (h.2 r hr)⟩
 | shape r k ih=>
  rcases h.shape_elim with h|⟨k',rfl,hD,h⟩
  ·exact Im.shape_hs fun s=>Hs.bind (h s)
  ·exact .inr ⟨hD,rfl,fun s=>ih s (h s)⟩
 | freeze a n k ih=>cases s'<;>exact h.elim
 | frozen a k ih=>cases s'<;>exact h.elim
 | choose q k ih=>cases s'<;>first|exact h.elim|exact⟨h.1,fun n=>ih n (h.2 n)⟩
 | sys c k ih=>cases s'<;>exact h.elim
 | program k ih=>cases s'<;>first|exact h.elim|exact ih P h
 | mark m k ih=>cases s'<;>first|exact h.elim|exact⟨h.1,h.2.1,ih h.2.2⟩
theorem Im.pure{α β:Type}{R:α->β->Prop}{a:α}{b:β}(h:R a b):Im S P R (Pure.pure a) (Pure.pure b):=h
end
structure WR(w w':World):Prop where
 inj:∀a b,S.D a->S.D b->S.ren a=S.ren b->a=b
 fresh:∀b,w.heap.size<=b->S.D b->w'.heap.size<=S.ren b
 obj:∀b,S.D b->b<w.heap.size->∃o o',w.heap[b]?=some o/\w'.heap[S.ren b]?=some o'/\a7v S o o'
 ro:∀b c e fr,S.D b->¬S.W b->w.heap[b]?=some (.cells c e fr)->∀i,i<c.size->fr.1<=i/\i<fr.2
section
variable{S}
theorem lt_of_some{α:Type}{l:Array α}{i:Nat}{o:α}(h:l[i]?=some o):i<l.size:=by
 rcases Nat.lt_or_ge i l.size with h1|h1
 ·exact h1
 ·rw[Array.getElem?_eq_none h1] at h;cases h
theorem WR.get{w w':World}(h:WR S w w'){b:Nat}(hD:S.D b){o:Obj}(ho:w.heap[b]?=some o):∃o',w'.heap[S.ren b]?=some o'/\a7v S o o':=by
 obtain⟨x,o',e,e',hx⟩:=h.obj b hD (lt_of_some ho);rw[ho] at e;injection e with e;subst e;exact⟨o',e',hx⟩
theorem WR.cell{w w':World}(h:WR S w w'){a:Addr}(hD:S.D a.block){v:Value}(hv:w.cell? a=some v):∃v',w'.cell? (rA S a)=some v'/\VR S v v':=by
 unfold World.cell? at hv⊢
 cases ho:w.heap[a.block]? with
 | none=>rw[ho] at hv;cases hv
 | some o=>
  obtain⟨o',e',hx⟩:=h.get hD ho;rw[ho] at hv;rw[show w'.heap[(rA S a).block]?=some o' from e']
  cases hx with
  | number=>cases hv
  | cells c c' e fr fr' hc _=>
   dsimp only at hv;show ∃v',(if a.spot.isSome=true then none else c'[a.off]?)=some v'/\VR S v v';split at hv
   ·cases hv
   ·rename_i hs;rw[if_neg hs];rcases hc.get? a.off with⟨e1,_⟩|⟨x,x',e1,e2,hx⟩
    ·rw[e1] at hv;cases hv
    ·rw[e1] at hv;injection hv with hv;subst hv;exact⟨x',e2,hx⟩
theorem WR.far{w w':World}(h:WR S w w')(P:Program){a:Addr}(hD:S.D a.block)(at_:Bool):∃x,w.farLoad P a at_=.error x:=by
 unfold World.farLoad
 cases ho:w.heap[a.block]? with
 | none=>exact⟨_,rfl⟩
 | some o=>
  obtain⟨o',e',hx⟩:=h.get hD ho;cases hx<;>exact⟨_,rfl⟩
theorem WR.farS{w w':World}(h:WR S w w')(P:Program){a:Addr}(hD:S.D a.block)(v:Value)(at_:Bool):∃x,w.farStore P a v at_=.error x:=by
 unfold World.farStore
 cases ho:w.heap[a.block]? with
 | none=>exact⟨_,rfl⟩
 | some o=>
  obtain⟨o',e',hx⟩:=h.get hD ho;cases hx<;>exact⟨_,rfl⟩
theorem WR.out{w w':World}(h:WR S w w'){b:Nat}(hD:S.D b)(hn:w.heap[b]?=none):w'.heap[S.ren b]?=none:=by
 rw[Array.getElem?_eq_none_iff] at hn⊢;exact h.fresh b hn hD
theorem WR.shape{w w':World}(h:WR S w w'){r:Nat}(hD:S.D r):w'.shape? (S.ren r)=w.shape? r:=by
 unfold World.shape?
 cases ho:w.heap[r]? with
 | none=>rw[h.out hD ho]
 | some o=>
  obtain⟨o',e',hx⟩:=h.get hD ho;rw[e']
  cases hx with
  | number=>rfl
  | cells c c' e fr fr' hc _=>simp[hc.size]
theorem WR.thaw{w w':World}(h:WR S w w'){a:Addr}(hD:S.D a.block){v:Value}(hv:w.cell? a=some v)(hf:w.frozen? a=false):w'.frozen? (rA S a)=false/\S.W a.block:=by
 unfold World.cell? at hv;unfold World.frozen? at hf⊢
 cases ho:w.heap[a.block]? with
 | none=>rw[ho] at hv;cases hv
 | some o=>
  obtain⟨o',e',hx⟩:=h.get hD ho;rw[ho] at hv hf;rw[b1Z,e']
  cases hx with
  | number=>cases hv
  | cells c c' e fr fr' hc hle=>
   obtain⟨lo,hi⟩:=fr;obtain⟨lo',hi'⟩:=fr';dsimp only at hv hf⊢;have hlt:a.off<c.size:=by
    split at hv
    ·cases hv
    ·exact lt_of_some hv
   refine⟨?_,Classical.byContradiction fun hn=>?_⟩
   ·cases hd:(decide (lo'<=(rA S a).off)&&decide ((rA S a).off<hi')) with
    | false=>rfl
    | true=>
     simp only[Bool.and_eq_true,decide_eq_true_eq,b3z] at hd;have:=hle a.off (of_decide_eq_true hd.1) (of_decide_eq_true hd.2);simp[this.1,this.2] at hf
   ·have:=h.ro a.block c e (lo,hi) hD hn ho a.off hlt;simp[this.1,this.2] at hf
theorem WR.setCell{w w':World}(h:WR S w w'){a:Addr}(hD:S.D a.block)(hW:S.W a.block){v v':Value}(hv:VR S v v'):WR S (w.setCell a v) (w'.setCell (rA S a) v'):=by
 have hsz:∀(w:World)a v,(World.setCell w a v).heap.size=w.heap.size:=fun w a v=>by simp[World.setCell]
 refine⟨h.inj,fun b hb hD=>by rw[hsz];exact h.fresh b (by rw[hsz] at hb;exact hb) hD,fun b hb hlt=>?_,fun b c e fr hb hn ho=>?_⟩
 ·rw[hsz] at hlt;obtain⟨x,x',e1,e2,hx⟩:=h.obj b hb hlt;by_cases e:b=a.block
  ·subst e
   cases hx with
   | number a0 l ha=>exact⟨.number a0 l,.number (rA S a0) l,by simp[World.setCell,Array.getElem?_modify,e1],by simp[World.setCell,Array.getElem?_modify,e2],.number _ _ ha⟩
   | cells c c' e0 fr fr' hc hle=>
    refine⟨.cells (if a.spot.isSome then c else c.setIfInBounds a.off v) e0 fr,.cells (if a.spot.isSome then c' else c'.setIfInBounds a.off v') e0 fr',?_,?_,.cells _ _ _ _ _ ?_ hle⟩
    ·simp[World.setCell,Array.getElem?_modify,e1]
    ·simp[World.setCell,Array.getElem?_modify,e2];rfl
    ·split
     ·exact hc
     ·exact hc.set _ hv
  ·refine⟨x,x',?_,?_,hx⟩
   ·simp[World.setCell,Array.getElem?_modify,Ne.symm e,e1]
   ·have:¬S.ren a.block=S.ren b:=fun e'=>e (h.inj _ _ hb hD e'.symm);simp[World.setCell,Array.getElem?_modify,this,e2]
 ·have hne:¬a.block=b:=fun e=>hn (e▸hW);refine h.ro b c e fr hb hn ?_;simpa [World.setCell,Array.getElem?_modify,hne] using ho
theorem WR.new{w w':World}(h:WR S w w')(hD:S.D w.heap.size)(hW:S.W w.heap.size)(hr:S.ren w.heap.size=w'.heap.size){o o':Obj}(hx:a7v S o o'):WR S {w with heap:=w.heap.push o} {w' with heap:=w'.heap.push o'}:=by
 refine⟨h.inj,fun b hb hDb=>?_,fun b hb hlt=>?_,fun b c e fr hb hn ho=>?_⟩
 ·simp only[Array.size_push] at hb⊢;have h1:=h.fresh b (by omega) hDb;have:S.ren b≠w'.heap.size:=fun e=>by
   have:=h.inj b w.heap.size hDb hD (e.trans hr.symm);omega
  omega
 ·simp only[Array.size_push] at hlt;by_cases e:b=w.heap.size
  ·subst e;exact⟨o,o',by simp,by simp[hr],hx⟩
  ·obtain⟨x,x',e1,e2,hx⟩:=h.obj b hb (by omega);refine⟨x,x',?_,?_,hx⟩
   ·show(w.heap.push o)[b]?=_;rw[Array.getElem?_push,if_neg e];exact e1
   ·have:S.ren b<w'.heap.size:=lt_of_some e2;show(w'.heap.push o')[S.ren b]?=_;rw[Array.getElem?_push,if_neg (by omega)];exact e2
 ·have ho':(w.heap.push o)[b]?=some (.cells c e fr):=ho;rw[Array.getElem?_push] at ho';split at ho'
  ·rename_i e1;exact absurd (e1▸hW) hn
  ·exact h.ro b c e fr hb hn ho'
theorem WR.draw{w w':World}(h:WR S w w')(d d':Nat):WR S {w with drawn:=d} {w' with drawn:=d'}:=⟨h.inj,h.fresh,h.obj,h.ro⟩
end
def EvOK(B:Nat)(e:Event):Prop:=
 match e.loc with
 | .cell a=>e.sync=false/\(∃b,S.D b/\S.ren b=a.block/\(e.write=true->S.W b))/\a.block<B
 | .obj r=>e.sync=false/\(∃b,S.D b/\S.ren b=r)/\e.write=false/\r<B
 | .mark m=>MarkOK m
 | _=>False
section
variable{S}{P:Program}
theorem EvOK.mono{B B':Nat}(hB:B<=B'){e:Event}(h:EvOK S B e):EvOK S B' e:=by
 unfold EvOK at *;split at h
 ·exact⟨h.1,h.2.1,Nat.lt_of_lt_of_le h.2.2 hB⟩
 ·exact⟨h.1,h.2.1,h.2.2.1,Nat.lt_of_lt_of_le h.2.2.2 hB⟩
 ·exact h
 ·exact h.elim
structure a13(w w' u u':World):Prop where
 size:w.heap.size<=u.heap.size
 size':u'.heap.size=w'.heap.size+(u.heap.size - w.heap.size)
 drawn:w.drawn<=u.drawn
 drawn':u'.drawn=w'.drawn+(u.drawn - w.drawn)
 tape:u.tape=w.tape
 tape':u'.tape=w'.tape
 os':u'.os=w'.os
 output':u'.output=w'.output
 old:∀b,b<w'.heap.size->(∀a,S.D a->S.W a->a<w.heap.size->S.ren a≠b)->u'.heap[b]?=w'.heap[b]?
theorem a13.refl(w w':World):a13 (S:=S) w w' w w':=⟨Nat.le_refl _,by omega,Nat.le_refl _,by omega,rfl,rfl,rfl,rfl,fun _ _ _=>rfl⟩
theorem a13.trans{w w' v v' u u':World}(h:a13 (S:=S) w w' v v')(k:a13 (S:=S) v v' u u')(hr:∀i,i<v.heap.size - w.heap.size->S.ren (w.heap.size+i)=w'.heap.size+i):a13 (S:=S) w w' u u':=by
 refine⟨Nat.le_trans h.size k.size,?_,Nat.le_trans h.drawn k.drawn,?_,k.tape.trans h.tape,k.tape'.trans h.tape',k.os'.trans h.os',k.output'.trans h.output',fun b hb hn=>?_⟩
 ·have:=h.size;have:=k.size;have:=h.size';have:=k.size';omega
 ·have:=h.drawn;have:=k.drawn;have:=h.drawn';have:=k.drawn';omega
 ·refine(k.old b (by have:=h.size';omega) fun a ha hW hlt e=>?_).trans (h.old b hb hn);by_cases hl:a<w.heap.size
  ·exact hn a ha hW hl e
  ·have:=hr (a - w.heap.size) (by omega);rw[show w.heap.size+(a - w.heap.size)=a by omega] at this;omega
def Runs{α β:Type}(R:α->β->Prop)(P:Program)(s':Sem β)(w w':World)(a:α)(u:World):Prop:=
 ∀es':Array Event,∃b u' new,s'.runT P w' es'=(.ok b u',es'++new)/\R a b/\WR S u u'/\a13 (S:=S) w w' u u'/\∀e∈new,EvOK S u'.heap.size e
theorem Runs.step{α β:Type}{R:α->β->Prop}{s' t':Sem β}{w w' v v' u:World}{a:α}{e1:Array Event}(h:Runs (S:=S) R P t' v v' a u)(hs:∀es,s'.runT P w' es=t'.runT P v' (es++e1))(hM:a13 (S:=S) w w' v v')
 (hr:∀i,i<v.heap.size - w.heap.size->S.ren (w.heap.size+i)=w'.heap.size+i)(he:∀e∈e1,EvOK S v'.heap.size e):Runs (S:=S) R P s' w w' a u:=by
 intro es;obtain⟨b,u',new,h1,h2,h3,h4,h5⟩:=h (es++e1);refine⟨b,u',e1++new,by rw[hs,h1,Array.append_assoc],h2,h3,hM.trans h4 hr,fun e hm=>?_⟩;rcases Array.mem_append.1 hm with hm|hm
 ·exact(he e hm).mono (by have:=h4.size';omega)
 ·exact h5 e hm
theorem b56{α:Type}(w:World)(k:Ask α):w.drawn<=(w.ask k).2.drawn/\(w.ask k).2.tape=w.tape:=by
 induction k generalizing w with
 | done a=>exact⟨Nat.le_refl _,rfl⟩
 | ask what range k ih=>
  unfold Go.World.ask;dsimp only;split
  ·exact ih _ _
  ·have:=ih ((Question.extern what range).cut (w.tape w.drawn (.extern what range))) {w with drawn:=w.drawn+1};exact⟨Nat.le_trans (Nat.le_succ _) this.1,this.2⟩
theorem b57(w:World)(c:Sys):w.drawn<=(w.sys c).2.drawn/\(w.sys c).2.tape=w.tape:=by
 have:=b56 w (Kernel.perform c w.os);unfold Go.World.sys;split
 ·exact⟨Nat.le_refl _,rfl⟩
 ·rename_i h1;rw[h1] at this;exact this
theorem a7V{P:Program}{w w':World}{a:Addr}{v:Value}{at_:Bool}{l:List Addr}(h:w.farStore P a v at_=.ok (w',l)):w'.drawn=w.drawn/\w'.tape=w.tape:=by
 unfold World.farStore at h;split at h
 ·split at h
  ·rename_i h1;injection h with h;subst h;rename_i at0 u _ _;unfold World.viewStore at h1;by_cases ht:(!tight P P.depth u)=true
   ·rw[if_pos ht] at h1;cases h1
   rw[if_neg ht] at h1;obtain⟨⟨c,e,fr,first,like,cells⟩,-,h2⟩:=Zn.bind_ok h1;dsimp only at h2;split at h2
   case h_2=>cases h2
   rename_i bytes _;by_cases hl:some bytes.length≠like.bytes?.map (·.length)
   ·rw[if_pos hl] at h2;cases h2
   rw[if_neg hl] at h2;obtain⟨c',-,h5⟩:=Zn.bind_ok h2;injection h5 with h5;injection h5 with h5 h6;subst h5;exact⟨rfl,rfl⟩
  ·cases h
 ·cases h
theorem a9V{α:Type}{s:Sem α}{w u:World}{a:α}(hr:s.run P w=.ok a u):w.drawn<=u.drawn/\u.tape=w.tape:=by
 induction s generalizing w with
 | halt x=>cases hr
 | pure x=>injection hr with e1 e2;subst e2;exact⟨Nat.le_refl _,rfl⟩
 | load m a k ih=>
  simp only[Sem.run] at hr;split at hr
  ·exact ih _ hr
  ·split at hr
   ·exact ih _ hr
   ·cases hr
 | store m x v k ih=>
  have e1:(Sem.store m x v k).run P w=.halt (.stuck "store: not the value of one cell") w\/(Sem.store m x v k).run P w=match w.cell? x with|some _=>if w.frozen? x then .halt (.unsupported (.unsafePointer "a write to bytes that a string shares")) w else k.run P (w.setCell x v)|none=>match w.farStore P x v (m==.atomic) with|.ok (w,_)=>k.run P w|.error h=>.halt h w:=by
   cases v<;>first|exact .inl rfl|exact .inr rfl
  rcases e1 with e1|e1
  ·rw[e1] at hr;cases hr
  rw[e1] at hr;split at hr
  ·split at hr
   ·cases hr
   ·exact ih (w:=w.setCell x v) hr
  ·split at hr
   ·rename_i h1;have:=a7V h1;have h2:=ih hr;rw[this.1,this.2] at h2;exact h2
   ·cases hr
 | new o k ih=>exact ih _ (w:={w with heap:=w.heap.push o}) hr
 | shape r k ih=>exact ih _ hr
 | freeze x n k ih=>
  have hdr:(w.freeze x n).drawn=w.drawn/\(w.freeze x n).tape=w.tape:=by unfold World.freeze;split<;>exact⟨rfl,rfl⟩
  have:=ih (w:=w.freeze x n) hr
  rw[hdr.1,hdr.2] at this;exact this
 | frozen a k ih=>exact ih _ hr
 | getObj r k ih=>
  simp only[Sem.run] at hr;split at hr
  ·cases hr
  ·exact ih _ hr
  ·cases hr
 | setObj r o k ih=>
  simp only[Sem.run] at hr;split at hr
  ·cases hr
  ·exact ih (w:={w with heap:=w.heap.setIfInBounds r o}) hr
  ·cases hr
 | choose q k ih=>
  simp only[Sem.run] at hr;split at hr
  ·exact ih _ hr
  ·have:=ih _ (w:={w with drawn:=w.drawn+1}) hr
   exact⟨Nat.le_trans (Nat.le_succ _) this.1,this.2⟩
 | sys c k ih=>
  simp only[Sem.run] at hr;have h1:=b57 w c;have:=ih _ (w:=(w.sys c).2) hr;rw[h1.2] at this
  exact⟨Nat.le_trans h1.1 this.1,this.2⟩
 | program k ih=>exact ih _ hr
 | mark m k ih=>exact ih hr
theorem b2a{α:Type}{s:Sem α}{w u:World}{a:α}(hr:s.run P w=.ok a u):w.heap.size<=u.heap.size:=by
 have h1:=Zn.runT_size P s w #[];have h2:(s.runT P w #[]).1=.ok a u:=(Sem.runT_fst P s w #[]).trans hr;rw[h2] at h1;exact h1
theorem Im.run{α β:Type}{R:α->β->Prop}{s:Sem α}{s':Sem β}(h:Im S P R s s'){w w' u:World}{a:α}(hW:WR S w w')(hr:s.run P w=.ok a u)
 (hn:∀i,i<u.heap.size - w.heap.size->S.D (w.heap.size+i)/\S.W (w.heap.size+i)/\S.ren (w.heap.size+i)=w'.heap.size+i)(ht:∀i q,i<u.drawn - w.drawn->w'.tape (w'.drawn+i) q=w.tape (w.drawn+i) q):
 Runs (S:=S) R P s' w w' a u:=by
 induction s generalizing s' w w' with
 | halt x=>cases hr
 | pure x=>
  cases s' with
  | pure y=>
   injection hr with e1 e2;subst e1;subst e2
   exact fun es=>⟨y,w',#[],by simp[Sem.runT],h,hW,a13.refl _ _,by simp⟩
  | _=>exact h.elim
 | load m x k ih=>
  cases s' with
  | load m' x' k'=>
   obtain⟨rfl,rfl,hD,rfl,hk⟩:=h
   cases hc:w.cell? x with
   | none=>
    obtain⟨y,hy⟩:=hW.far P hD (Mode.plain==Mode.atomic)
    simp only[Sem.run,hc,hy] at hr;cases hr
   | some v=>
    obtain⟨v',hc',hv⟩:=hW.cell hD hc;have hlt:(rA S x).block<w'.heap.size:=by
     rcases Nat.lt_or_ge (rA S x).block w'.heap.size with h|h
     ·exact h
     ·unfold World.cell? at hc';rw[Array.getElem?_eq_none h] at hc';cases hc'
    simp only[Sem.run,hc] at hr;refine(ih v (hk v v' hv) hW hr hn ht).step (e1:=#[⟨.cell (rA S x),false,false⟩]) (fun es=>?_) (a13.refl _ _) (fun i hi=>by omega) ?_
    ·simp only[Sem.runT,hc'];rw[Array.append_singleton];rfl
    ·intro e he;simp at he;subst he;exact⟨rfl,⟨_,hD,rfl,by simp⟩,hlt⟩
  | _=>exact h.elim
 | store m x v k ih=>
  cases s' with
  | store m' x' v' k'=>
   obtain⟨rfl,rfl,hD,rfl,hv,hk⟩:=h;have hva:(∀c,v≠.agg c)/\(∀c,v≠.tuple c):=by
    refine⟨fun c e=>?_,fun c e=>?_⟩<;>(subst e;simp only[Sem.run] at hr;cases hr)
   have hva':(∀c,v'≠.agg c)/\(∀c,v'≠.tuple c):=by
    refine⟨fun c e=>?_,fun c e=>?_⟩<;>subst e<;>cases hv
    ·exact hva.1 _ rfl
    ·exact hva.2 _ rfl
   have e1:(Sem.store Mode.plain x v k).run P w=match w.cell? x with|some _=>if w.frozen? x then .halt (.unsupported (.unsafePointer "a write to bytes that a string shares")) w else k.run P (w.setCell x v)|none=>match w.farStore P x v (Mode.plain==.atomic) with|.ok (w,_)=>k.run P w|.error h=>.halt h w:=by
    cases v<;>first|rfl|exact absurd rfl (hva.1 _)|exact absurd rfl (hva.2 _)
   have e2:∀es,(Sem.store Mode.plain (rA S x) v' k').runT P w' es=match w'.cell? (rA S x) with|some _=>if w'.frozen? (rA S x) then(.halt (.unsupported (.unsafePointer "a write to bytes that a string shares")) w',es) else k'.runT P (w'.setCell (rA S x) v') (es.push ⟨.cell (rA S x),true,false⟩)|none=>match w'.farStore P (rA S x) v' (Mode.plain==.atomic) with|.ok (w,touched)=>k'.runT P w (es++touched.toArray.map (⟨.cell ·,true,Mode.plain==.atomic⟩))|.error h=>(.halt h w',es):=by
    intro es;cases v'<;>first|rfl|exact absurd rfl (hva'.1 _)|exact absurd rfl (hva'.2 _)
   rw[e1] at hr
   cases hc:w.cell? x with
   | none=>
    obtain⟨y,hy⟩:=hW.farS P hD v (Mode.plain==Mode.atomic)
    simp only[hc,hy] at hr;cases hr
   | some y=>
    obtain⟨y',hc',_⟩:=hW.cell hD hc;have hlt:(rA S x).block<w'.heap.size:=by
     rcases Nat.lt_or_ge (rA S x).block w'.heap.size with h|h
     ·exact h
     ·unfold World.cell? at hc';rw[Array.getElem?_eq_none h] at hc';cases hc'
    simp only[hc] at hr
    cases hf:w.frozen? x with
    | true=>rw[hf] at hr;cases hr
    | false=>
     obtain⟨hf',hWx⟩:=hW.thaw hD hc hf;rw[hf] at hr;have hsz:(w.setCell x v).heap.size=w.heap.size:=by simp[World.setCell]
     have hsz':(w'.setCell (rA S x) v').heap.size=w'.heap.size:=by simp[World.setCell]
     refine(ih hk (hW.setCell hD hWx hv) hr (by rw[hsz,hsz'];exact hn) ht).step (e1:=#[⟨.cell (rA S x),true,false⟩]) (fun es=>?_) ?_ (fun i hi=>by omega) ?_
     ·rw[e2,hc'];simp only[hf'];rw[Array.append_singleton];rfl
     ·exact⟨by omega,by omega,Nat.le_refl _,by show w'.drawn=w'.drawn+(w.drawn - w.drawn);omega,rfl,rfl,rfl,rfl,fun b hb hne=>by
       have:(rA S x).block≠b:=hne x.block hD hWx (by
        unfold World.cell? at hc;rcases Nat.lt_or_ge x.block w.heap.size with h|h
        ·exact h
        ·rw[Array.getElem?_eq_none h] at hc;cases hc)
       simp[World.setCell,Array.getElem?_modify];exact fun e=>absurd e this⟩
     ·intro e he;simp at he;subst he;exact⟨rfl,⟨_,hD,rfl,fun _=>hWx⟩,by rw[hsz'];exact hlt⟩
  | _=>exact h.elim
 | new o k ih=>
  cases s' with
  | new o' k'=>
   obtain⟨ho,hk⟩:=h;simp only[Sem.run] at hr;have k1:=b2a hr;have k1':w.heap.size+1<=u.heap.size:=by simpa using k1
   obtain⟨hD,hWr,h0⟩:S.D w.heap.size/\S.W w.heap.size/\S.ren w.heap.size=w'.heap.size:=by simpa using hn 0 (by omega)
   have hk0:=hk _ hD;rw[h0] at hk0;refine(ih _ hk0 (hW.new hD hWr h0 ho) hr (fun i hi=>by
    simp only[Array.size_push] at hi⊢;have:=hn (i+1) (by omega);rw[show w.heap.size+(i+1)=w.heap.size+1+i by omega] at this;exact⟨this.1,this.2.1,by rw[this.2.2];omega⟩) ht).step (e1:=#[]) (fun es=>by simp[Sem.runT]) ?_ (fun i hi=>?_) (by simp)
   ·refine⟨by simp,by simp,Nat.le_refl _,by show w'.drawn=w'.drawn+(w.drawn - w.drawn);omega,rfl,rfl,rfl,rfl,fun b hb _=>?_⟩;show(w'.heap.push o')[b]?=_;rw[Array.getElem?_push,if_neg (by omega)]
   ·simp at hi;have:i=0:=by omega
    subst this;simpa using h0
  | _=>exact h.elim
 | shape r k ih=>
  rcases h.shape_elim with h|⟨k',rfl,hD,hk⟩
  ·exact absurd hr (Hs.run (h _))
  ·exact(ih _ (hk _) hW hr hn ht).step (e1:=#[]) (fun es=>by simp[Sem.runT,hW.shape hD]) (a13.refl _ _) (fun i hi=>by omega) (by simp)
 | freeze x n k ih=>cases s'<;>exact h.elim
 | frozen x k ih=>cases s'<;>exact h.elim
 | getObj r k ih=>
  cases s' with
  | getObj r' k'=>
   obtain⟨hD,rfl,hk⟩:=h;simp only[Sem.run] at hr
   cases ho:w.heap[r]? with
   | none=>rw[ho] at hr;cases hr
   | some o=>
    obtain⟨o',ho',hx⟩:=hW.get hD ho;rw[ho] at hr
    cases hx with
    | cells=>cases hr
    | number a l ha=>
     refine(ih _ (hk a l ha) hW hr hn ht).step (e1:=#[⟨.obj (S.ren r),false,false⟩]) (fun es=>?_) (a13.refl _ _) (fun i hi=>by omega) ?_
     ·simp only[Sem.runT,ho',Array.append_singleton];rfl
     ·intro e he;simp at he;subst he;exact⟨rfl,⟨_,hD,rfl⟩,rfl,lt_of_some ho'⟩
  | _=>exact h.elim
 | setObj r o k ih=>cases s'<;>exact h.elim
 | choose q k ih=>
  cases s' with
  | choose q' k'=>
   obtain⟨rfl,hk⟩:=h;simp only[Sem.run] at hr;by_cases hf:q'.forced=true
   ·rw[if_pos hf] at hr;exact(ih _ (hk _) hW hr hn ht).step (e1:=#[]) (fun es=>by simp[Sem.runT,hf]) (a13.refl _ _) (fun i hi=>by omega) (by simp)
   ·rw[if_neg hf] at hr;have hd:w.drawn+1<=u.drawn:=(a9V hr).1;have h0:w'.tape w'.drawn q'=w.tape w.drawn q':=by simpa using ht 0 q' (by omega)
    refine(ih _ (hk (q'.cut (w.tape w.drawn q'))) (hW.draw (w.drawn+1) (w'.drawn+1)) hr hn (fun i q hi=>by
     have:=ht (i+1) q (by simp at hi;omega);simpa [Nat.add_assoc,Nat.add_comm 1 i] using this)).step (e1:=#[]) (fun es=>by simp[Sem.runT,hf,h0]) ?_ (fun i hi=>by simp at hi) (by simp)
    exact⟨Nat.le_refl _,by simp,by simp,by simp,rfl,rfl,rfl,rfl,fun _ _ _=>rfl⟩
  | _=>exact h.elim
 | sys c k ih=>cases s'<;>exact h.elim
 | program k ih=>
  cases s' with
  | program k'=>exact(ih P h hW hr hn ht).step (e1:=#[]) (fun es=>by simp[Sem.runT]) (a13.refl _ _) (fun i hi=>by omega) (by simp)
  | _=>exact h.elim
 | mark m k ih=>
  cases s' with
  | mark m' k'=>
   obtain⟨rfl,hm,hk⟩:=h;refine(ih hk hW hr hn ht).step (e1:=#[⟨.mark m',false,true⟩]) (fun es=>by simp[Sem.runT]) (a13.refl _ _) (fun i hi=>by omega) ?_
   intro e he;simp at he;subst he;exact hm
  | _=>exact h.elim
end
end
end Go.Bi
namespace Go.Mc
section
open Go.Conc
open Go.ConcR (KK wgBlock WgAt stA smA rd wr mk DC0 Bk)
open Go.ConcN (WgLive ShN)
structure Pz where
 P:Program
 ty:TypeId
 Wg:Nat
 Al:Nat
 tAl:TypeId
 Cb:Nat
 tCb:TypeId
 c:Nat
 n:Nat
 L0:Nat
 Eld:Nat->Prop
 ShB:Nat->Prop
 Res:Nat->Nat->(Nat->Prop)->World->Prop
 e0:Nat
 v0:Value
variable(Z:Pz)
def myCell(i k:Nat):Prop:=k=2*i\/k=2*i+1
def a0A(w:World):Prop:=∃v:Int,w.heap[Z.Al]?=some (.cells #[.int .i64 v] Z.tAl)
def a0r(w:World):Prop:=∃cs:Array Value,w.heap[Z.Cb]?=some (.cells cs Z.tCb)/\cs.size=2*Z.n
structure a0a:Prop where
 c:0<Z.c
 WA:Z.Wg≠Z.Al
 WC:Z.Wg≠Z.Cb
 AC:Z.Al≠Z.Cb
 W0:Z.Wg<Z.L0
 A0:Z.Al<Z.L0
 C0:Z.Cb<Z.L0
 eld:∀b,Z.Eld b->b<Z.L0/\b≠Z.Wg/\b≠Z.Al/\b≠Z.Cb/\¬Z.ShB b
 sh:∀b,Z.ShB b->b<Z.L0/\b≠Z.Wg/\b≠Z.Al/\b≠Z.Cb
 e0:Z.Eld Z.e0
 res:∀i bx O w w',w.heap.size<=w'.heap.size->w'.heap[bx]?=w.heap[bx]?->(∀b,O b->w'.heap[b]?=w.heap[b]?)->(∀k,myCell i k->w'.cell? ⟨Z.Cb,k,none⟩=w.cell? ⟨Z.Cb,k,none⟩)->Z.Res i bx O w->Z.Res i bx O w'
structure RW(i bx:Nat)(O:Nat->Prop)(w w₁:World):Prop where
 size:w.heap.size<=w₁.heap.size
 eld:∀b,Z.Eld b->w₁.heap[b]?=w.heap[b]?
 box:w₁.heap[bx]?=w.heap[bx]?
 own:∀b,O b->w₁.heap[b]?=w.heap[b]?
 live:WgLive Z.ty Z.Wg w->WgLive Z.ty Z.Wg w₁
 al:a0A Z w->a0A Z w₁
 cb:a0r Z w->a0r Z w₁
 cell:∀k,myCell i k->w₁.cell? ⟨Z.Cb,k,none⟩=w.cell? ⟨Z.Cb,k,none⟩
theorem RW.refl(i bx:Nat)(O:Nat->Prop)(w:World):RW Z i bx O w w:=⟨Nat.le_refl _,fun _ _=>rfl,rfl,fun _ _=>rfl,id,id,id,fun _ _=>rfl⟩
theorem RW.trans{i bx:Nat}{O:Nat->Prop}{a b d:World}(h:RW Z i bx O a b)(k:RW Z i bx O b d):RW Z i bx O a d:=
 ⟨Nat.le_trans h.size k.size,fun x y=>(k.eld x y).trans (h.eld x y),k.box.trans h.box,fun x y=>(k.own x y).trans (h.own x y),k.live∘h.live,k.al∘h.al,k.cb∘h.cb,fun x y=>(k.cell x y).trans (h.cell x y)⟩
def EvW(i bx:Nat)(O:Nat->Prop)(B:Nat)(e:Event):Prop:=
 match e.loc with
 | .cell a=>a.block<B/\((a.block=Z.Al/\e.sync=true)\/(e.sync=false/\(O a.block\/(a.block=Z.Cb/\a.spot=none/\myCell i a.off)\/((Z.Eld a.block\/a.block=bx)/\e.write=false))))
 | .obj r=>r<B/\e.sync=false/\(O r\/((Z.Eld r\/r=bx)/\e.write=false))
 | .mark m=>Bi.MarkOK m
 | _=>False
structure DW(i bx:Nat)(O O':Nat->Prop)(w w':World)(es:Array Event):Prop where
 size:w.heap.size<=w'.heap.size
 tape:w'.tape=w.tape
 os:w'.os=w.os
 output:w'.output=w.output
 old:∀b,b<w.heap.size->¬O b->b≠Z.Al->b≠Z.Cb->w'.heap[b]?=w.heap[b]?
 al:a0A Z w->a0A Z w'
 cb:a0r Z w->a0r Z w'
 cell:∀k,¬myCell i k->w'.cell? ⟨Z.Cb,k,none⟩=w.cell? ⟨Z.Cb,k,none⟩
 more:∀b,O b->O' b
 new:∀b,O' b->O b\/w.heap.size<=b
 in_:∀b,O' b->b<w'.heap.size
 ev:∀e∈es,EvW Z i bx O' w'.heap.size e
section
variable[Go.ConcR.Payload]
abbrev b6T:Nat->Loc->Prop:=fun _ _=>False
def At7(i bx:Nat)(O:Nat->Prop)(g:Goroutine)(w:World):Prop:=ConcN.AtR0 Z.P Z.ty Z.Wg Z.e0 Z.n 0 1 Z.v0 g w/\Z.Res i bx O w
def Works(i bx:Nat)(g:Goroutine)(w:World):Prop:=∃T,Wk Z.P false (RW Z i bx) (DW Z i bx) (At7 Z i bx) T (fun _=>False) g w
def trN:Nat->Tr
 | 0=>.leaf
 | m+1=>.node fun _=>trN m
theorem b9g(m:Nat):a3l (trN m) (trN (m+1)):=.mk (fun _=>trN m) default
inductive WS(i bx:Nat)(O:Nat->Prop):Nat->Tr->Nat->Goroutine->World->Prop
 | work (T:Tr) (g:Goroutine) (w:World) (h:Wk Z.P false (RW Z i bx) (DW Z i bx) (At7 Z i bx) T O g w):WS i bx O 7 T 0 g w
 | rest (s m d:Nat) (g:Goroutine) (w:World) (hs:s<=6) (h:ConcN.WSit Z.P Z.ty Z.Wg Z.e0 Z.n b6T b6T 0 1 Z.v0 s m d g w) (hr:Z.Res i bx O w):WS i bx O s (trN m) d g w
structure R0(x:Option Nat)(w w₁:World):Prop where
 size:w.heap.size<=w₁.heap.size
 eld:∀b,Z.Eld b->w₁.heap[b]?=w.heap[b]?
 cur:∀b,x=some b->w₁.heap[b]?=w.heap[b]?
 live:WgLive Z.ty Z.Wg w->WgLive Z.ty Z.Wg w₁
 shb:∀b,Z.ShB b->w₁.heap[b]?=w.heap[b]?
theorem R0.refl(x:Option Nat)(w:World):R0 Z x w w:=⟨Nat.le_refl _,fun _ _=>rfl,fun _ _=>rfl,id,fun _ _=>rfl⟩
theorem R0.trans{x:Option Nat}{a b d:World}(h:R0 Z x a b)(k:R0 Z x b d):R0 Z x a d:=
 ⟨Nat.le_trans h.size k.size,fun x y=>(k.eld x y).trans (h.eld x y),fun x y=>(k.cur x y).trans (h.cur x y),k.live∘h.live,fun x y=>(k.shb x y).trans (h.shb x y)⟩
def Ev0(x:Option Nat)(B:Nat)(e:Event):Prop:=
 match e.loc with
 | .cell a=>a.block<B/\e.sync=false/\((Z.Eld a.block/\e.write=false)\/x=some a.block)
 | .obj r=>r<B/\e.sync=false/\Z.Eld r/\e.write=false
 | .mark m=>Bi.MarkOK m\/∃a,(m=.read a\/m=.write a)/\a.block=Z.Wg
 | _=>False
structure D0(x x':Option Nat)(w w':World)(es:Array Event):Prop where
 size:w.heap.size<=w'.heap.size
 tape:w'.tape=w.tape
 os:w'.os=w.os
 output:w'.output=w.output
 old:∀b,b<w.heap.size->x≠some b->w'.heap[b]?=w.heap[b]?
 cur:x'=x\/x'=none\/∃b,x'=some b/\w.heap.size<=b/\b<w'.heap.size
 ev:∀e∈es,Ev0 Z x' w'.heap.size e
abbrev W0(Stop:Option Nat->Goroutine->World->Prop):Tr->Option Nat->Goroutine->World->Prop:=Wk Z.P true (R0 Z) (D0 Z) Stop
section
variable(Cont:Goroutine->World->Prop)
def AtAcq(_x:Option Nat)(g:Goroutine)(w:World):Prop:=
 g.status=.running/\∃g',stepG Z.P true g w=.go g' w #[mk (.acquire (stA Z.Wg))]/\g'.status=.running/\Cont g' w
def AtKe(x:Option Nat)(g:Goroutine)(w:World):Prop:=
 g.status=.running/\∃g',stepG Z.P true g w=.go g' w #[mk .enable]/\∃T,W0 Z (AtAcq Z Cont) T x g' w
def AtW4(x:Option Nat)(g:Goroutine)(w:World):Prop:=
 g.status=.running/\(WgAt Z.ty Z.Wg w 0 0->∃g',stepG Z.P true g w=.go g' w #[rd (stA Z.Wg)]/\∃T,W0 Z (AtKe Z Cont) T x g' w)
def AtW3(x:Option Nat)(g:Goroutine)(w:World):Prop:=
 g.status=.running/\g.offers=none/\((∃st,WgAt Z.ty Z.Wg w st 0)->stepG Z.P true g w=.go {g with status:=.blocked} w #[])/\
  (WgAt Z.ty Z.Wg w 0 1->∃g',stepG Z.P true g w=.go g' (w.setCell (smA Z.Wg) (.int .u32 0)) (semEvents (smA Z.Wg))/\∃T,W0 Z (AtW4 Z Cont) T x g' (w.setCell (smA Z.Wg) (.int .u32 0)))
variable(AnchW:Goroutine->World->Prop)
def AtW2(vs:Nat)(x:Option Nat)(g:Goroutine)(w:World):Prop:=
 g.status=.running/\∀v:Nat,v<2147483648->WgAt Z.ty Z.Wg w (v*KK) 0->
  (v=vs->∃g',stepG Z.P true g w=.go g' (w.setCell (stA Z.Wg) (.int .u64 (v*KK+1))) #[rd (stA Z.Wg),wr (stA Z.Wg)]/\∃T,W0 Z (AtW3 Z Cont) T x g' (w.setCell (stA Z.Wg) (.int .u64 (v*KK+1))))/\
  (v≠vs->∃g',stepG Z.P true g w=.go g' w #[rd (stA Z.Wg)]/\∃T,W0 Z (fun _=>AnchW) T x g' w)
def AtW1(x:Option Nat)(g:Goroutine)(w:World):Prop:=
 g.status=.running/\∀v:Nat,v<2147483648->WgAt Z.ty Z.Wg w (v*KK) 0->∃g',stepG Z.P true g w=.go g' w #[rd (stA Z.Wg)]/\
  (v=0->∃T,W0 Z (AtKe Z Cont) T x g' w)/\(v≠0->∃T,W0 Z (AtW2 Z Cont AnchW v) T x g' w)
def AtKd(x:Option Nat)(g:Goroutine)(w:World):Prop:=
 g.status=.running/\∃g',stepG Z.P true g w=.go g' w #[mk .disable]/\∃T,W0 Z (fun _=>AnchW) T x g' w
end
section
variable(j:Nat)(Next:Option Nat->Goroutine->World->Prop)
def AtGoS(x:Option Nat)(g:Goroutine)(w:World):Prop:=
 g.status=.running/\∃b g' child,x=some b/\stepG Z.P true g w=.spawn g' child w #[]/\child.status=.running/\(a0A Z w->a0r Z w->WgLive Z.ty Z.Wg w->Works Z j b child w)/\Next none g' w
def AtKeS(x:Option Nat)(g:Goroutine)(w:World):Prop:=
 g.status=.running/\∃g',stepG Z.P true g w=.go g' w #[mk .enable]/\∃T,W0 Z (AtGoS Z j Next) T x g' w
def AtA1(x:Option Nat)(g:Goroutine)(w:World):Prop:=
 g.status=.running/\∀v:Nat,v<2147483647->WgAt Z.ty Z.Wg w (v*KK) 0->
  ∃g',stepG Z.P true g w=.go g' (w.setCell (stA Z.Wg) (.int .u64 ((v+1)*KK))) #[rd (stA Z.Wg),wr (stA Z.Wg)]/\∃T,W0 Z (AtKeS Z j Next) T x g' (w.setCell (stA Z.Wg) (.int .u64 ((v+1)*KK)))
def AtKdS(x:Option Nat)(g:Goroutine)(w:World):Prop:=
 g.status=.running/\∃g',stepG Z.P true g w=.go g' w #[mk .disable]/\∃T,W0 Z (AtA1 Z j Next) T x g' w
end
def Spawns(Fin:Option Nat->Goroutine->World->Prop):Nat->Option Nat->Goroutine->World->Prop
 | 0,x,g,w=>Fin x g w
 | r+1,x,g,w=>∃T,W0 Z (AtKdS Z (Z.n - (r+1)) (Spawns Fin r)) T x g w
end
end
end Go.Mc
namespace Go.Mw
section
open Go.Conc Go.RowKit Go.Conc.Lib Go.ConcR.Gen Go.ConcN.Gen
open Go.ConcR (KK wgBlock WgAt stA smA rd wr mk DC0)
open Go.ConcN (WgLive)
open Go.ConcM (goes_le)
open Mc
variable[Go.ConcR.Payload]
section
variable{Z:Pz}{x:Option Nat}
omit[Go.ConcR.Payload] in
theorem b5S{w:World}{es:Array Event}(h:∀e∈es,False):D0 Z x x w w es:=⟨Nat.le_refl _,rfl,rfl,rfl,fun _ _ _=>rfl,.inl rfl,fun e he=>(h e he).elim⟩
omit[Go.ConcR.Payload] in
theorem c2g{w:World}{m:Mark}(h:Bi.MarkOK m\/∃a,(m=.read a\/m=.write a)/\a.block=Z.Wg):D0 Z x x w w #[⟨.mark m,false,true⟩]:=
 ⟨Nat.le_refl _,rfl,rfl,rfl,fun _ _ _=>rfl,.inl rfl,fun e he=>by
  rw[Array.mem_singleton] at he;subst he;exact h⟩
omit[Go.ConcR.Payload] in
theorem c5f{w w':World}{es:Array Event}(h:DC0 w w' es):D0 Z x x w w' es:=by
 obtain⟨rfl,rfl⟩:=h;exact b5S (by simp)
def Kn(Z:Pz)(x:Option Nat)(w0 w:World):Prop:=R0 Z x w0 w/\WgLive Z.ty Z.Wg w
variable{w0 w w₁:World}
theorem Kn.rely(h:Kn Z x w0 w)(r:R0 Z x w w₁):Kn Z x w0 w₁:=⟨R0.trans Z h.1 r,r.live h.2⟩
theorem Kn.set(hZ:a0a Z)(hx:x≠some Z.Wg)(h:Kn Z x w0 w)(a:Addr)(ha:a.block=Z.Wg)(v:Value)(hl:WgLive Z.ty Z.Wg (w.setCell a v)):Kn Z x w0 (w.setCell a v):=by
 have ho:∀b,b≠Z.Wg->(w.setCell a v).heap[b]?=w.heap[b]?:=fun b hb=>Below.heap_setCell _ _ _ _ (by rw[ha];exact hb);refine⟨⟨?_,fun b hb=>(ho b (hZ.eld b hb).2.1).trans (h.1.eld b hb),fun b hb=>(ho b fun e=>hx (e▸hb)).trans (h.1.cur b hb),fun _=>hl,fun b hb=>(ho b (hZ.sh b hb).2.1).trans (h.1.shb b hb)⟩,hl⟩;rw[(aside_setCell w a v).size];exact h.1.size
end
section
variable{P:Program}{Z:Pz}{x:Option Nat}
theorem Y6{Stop:Option Nat->Goroutine->World->Prop}{n:Nat}{g:Goroutine}{w:World}(h:Goes Z.P true (R0 Z x) DC0 (Stop x) n g w):∃T,W0 Z Stop T x g w:=
 Wk.ofGoes (γ:=Option Nat) (P:=Z.P) (main:=true) (R:=R0 Z) (D:=D0 Z) (Stop:=Stop) x (fun _ _ h=>h) (fun _ _ _ h=>c5f h) (fun _ _ h=>h) h
theorem b5T{Stop:Option Nat->Goroutine->World->Prop}{n:Nat}{g:Goroutine}{w:World}(h:Goes Z.P true (R0 Z x) DC0 (fun g w=>∃T,W0 Z Stop T x g w) n g w):∃T,W0 Z Stop T x g w:=by
 obtain⟨T,hT⟩:=Y6 (Stop:=fun y g w=>∃T,W0 Z Stop T y g w) h;exact Wk.bind (R0.refl Z) (fun _ _ _ _ h1 h2=>R0.trans Z h1 h2) hT fun y g w hs=>hs
theorem b5U{Stop:Option Nat->Goroutine->World->Prop}{g g':Goroutine}{w:World}{m:Mark}(hrun:g.status=.running)(hm:∃a,(m=.read a\/m=.write a)/\a.block=Z.Wg)(h:∀w,stepG Z.P true g w=.go g' w #[⟨.mark m,false,true⟩])(h':∀w₁,R0 Z x w w₁->∃T,W0 Z Stop T x g' w₁):∃T,W0 Z Stop T x g w:=
 Wk.step hrun fun w₁ r=>let ⟨T,hT⟩:=h' w₁ r;⟨g',w₁,_,x,T,h w₁,c2g (.inr hm),hT⟩
end
section
variable{Z:Pz}{L:WgLink}{x:Option Nat}{j:Nat}{Next:Option Nat->Goroutine->World->Prop}{b₀:Frame}{a₀:Act}{ops₀:Array Oper}{i₀:Nat}{rest₀:List Nat}{k₀:List Item}{cs:List Frame}
theorem a0X(hZ:a0a Z)(H:WgLib Z.P L)(hty:Z.ty=L.tWg)(hx:x≠some Z.Wg){w0:World}
 (hT:∀w,Kn Z x w0 w->∃T,W0 Z (AtGoS Z j Next) T x (G (b₀.at (a₀.put ((ops₀[i₀]?).bind (·.dst)) (.tuple #[])) (.inRegion ops₀ rest₀::k₀)) cs) w)(w:World)(hF:Kn Z x w0 w):
 ∃T,W0 Z (AtKdS Z j Next) T x (G ((base L.add).at ⟨#[.pointer (some ⟨Z.Wg,0,none⟩),.int .i64 1]++Array.replicate 115 undef,[]⟩ [.code (body_add L)]) (b₀.at a₀ (.inRegion ops₀ (i₀::rest₀)::k₀)::cs)) w:=by
 lib_facts;refine Y6 (n:=12) ?_;simp only[body_add,addFn,Option.getD_some];walk_nrm;iterate 12 (first|w_go Kn.rely|u_cnd true Kn.rely hF|u_cnd false Kn.rely hF)
 refine Goes.stop (fun w₁ h₁=>?_);replace hF:=Kn.rely hF h₁;clear h₁;refine⟨rfl,_,stepG_mark0 .disable (by simp) rfl rfl (by k_ne) rfl H.f_disable (x_disable_n L) (x_disable_b L) (x_disable_x L) (x_disable_f L),Y6 (n:=40) ?_⟩;walk_nrm;iterate 2 (first|w_go Kn.rely|u_cnd true Kn.rely hF|u_cnd false Kn.rely hF)
 u_defer Kn.rely hF
 iterate 8 (first|w_go Kn.rely|u_cnd true Kn.rely hF|u_cnd false Kn.rely hF)
 u_bub Kn.rely hF
 iterate 11 (first|w_go Kn.rely|u_cnd true Kn.rely hF|u_cnd false Kn.rely hF)
 u_call H.f_uAdd (nm_uAdd L) uAddFn Kn.rely hF
 iterate 10 (first|w_go Kn.rely|u_cnd true Kn.rely hF|u_cnd false Kn.rely hF)
 refine Goes.stop (fun w₂ h₂=>?_);replace hF:=Kn.rely hF h₂;clear h₂;refine⟨rfl,fun v hv hw=>?_⟩;have hW:∀st':Int,WgLive Z.ty Z.Wg (w₂.setCell (stA Z.Wg) (.int .u64 st')):=fun st'=>⟨_,_,hw.setSt st'⟩;rcases Nat.eq_zero_or_pos v with rfl|hvp
 ·have hw0:WgAt Z.ty Z.Wg w₂ 0 0:=by simpa using hw
  have z:(((0:Nat):Int)+1)*KK=KK:=by simp
  rw[z];have e0:IntKind.u64.wrap (0+4294967296)=KK:=by decide
  refine⟨_,(stepG_add_atomic rfl rfl (by k_ne) rfl H.f_addU64 (x_addU64_n L) (x_addU64_b L) (x_addU64_x L) .u64 (x_addU64_f L) rfl rfl hw0.cellSt (hw0.thaw 0)).trans (by rw[e0];rfl),b5T (n:=110) ?_⟩;replace hF:=Kn.set hZ hx hF (stA Z.Wg) rfl (.int .u64 KK) (hW _);clear hw hw0 hW;simp only[KK] at hF⊢;walk_nrm;iterate 3 (first|w_go Kn.rely|u_cnd true Kn.rely hF|u_cnd false Kn.rely hF)
  u_leave1 H.f_uAdd Kn.rely hF
  iterate 48 (first|w_go Kn.rely|u_cnd true Kn.rely hF|u_cnd false Kn.rely hF)
  u_in Kn.rely hF
  refine goes_oper_k rfl rfl (by k_ne) (fun Kx hKx=>?_);have hc1:=(WgLive.cell1 hF.2).choose_spec;have hcv:=run_convert_to_unsafe (P:=Z.P) H.underlying_tPU32 H.underlying_tUP H.room_tU32 hc1;have hce:=fun es=>events_convert_to_unsafe (P:=Z.P) H.underlying_tPU32 H.underlying_tUP H.room_tU32 hc1 es;go_simp
  refine hKx _ _ ⟨?_,?_⟩
  ·u_none
   intro ex hex;have hmx:=mem_listed hex;simp[go_sem,hce] at hmx
  clear hKx Kx hcv hce hc1;refine Goes.stop (fun w₉ h₉=>?_);replace hF:=Kn.rely hF h₉;clear h₉;refine b5U rfl ⟨_,.inl rfl,rfl⟩ (fun w=>stepG_markAt (ad:=⟨Z.Wg,1,none⟩) .read (by simp) rfl rfl (by k_ne) rfl H.f_raceRead (x_raceRead_n L) (x_raceRead_b L) (x_raceRead_x L) (x_raceRead_f L) (by simp[Act.eval]<;>rfl)) (fun w₈ h₈=>Y6 (n:=60) ?_);replace hF:=Kn.rely hF h₈;clear h₈;walk_nrm;iterate 39 (first|w_go Kn.rely|u_cnd true Kn.rely hF|u_cnd false Kn.rely hF)
  refine Goes.stop (fun w₃ h₃=>?_);replace hF:=Kn.rely hF h₃;clear h₃;refine⟨rfl,_,stepG_unwind_entry (v:=.tuple #[]) (evs:=#[mk .enable]) rfl H.f_enable (x_enable_n L) (x_enable_b L) (x_enable_x L) (x_enable_f L) (by simp[Extern.Race.none_]) (by simp[mk]) (by simp[mk]),b5T (n:=2) ?_⟩;u_leave0 H.f_add (Kn.rely) hF
  exact Goes.stop fun w₄ h₄=>hT _ (Kn.rely hF h₄)
 ·obtain⟨V,hV⟩:∃V:Int,V=(v:Int)+1:=⟨_,rfl⟩;obtain⟨S,hS⟩:∃S:Int,S=V*KK:=⟨_,rfl⟩;have eS:IntKind.u64.wrap ((v:Int)*KK+4294967296)=S:=by rw[IntKind.wrap_u64,hS,hV];simp only[KK];omega
  rw[<-hV,<-hS];have a1:S/4294967296=V:=by rw[hS];simp only[KK];omega
  have b1:bits .and .u64 S 2147483648=0:=by rw[hS,hV];have:=Go.ConcN.st_flag (v+1) 0 (by omega) (by omega);simpa [KK] using this
  have b2:bits .and .u64 S 2147483647=0:=by rw[hS,hV];have:=Go.ConcN.st_waiters (v+1) 0 (by omega) (by omega);simpa [KK] using this
  have c1:IntKind.i32.wrap V=V:=by rw[IntKind.wrap_i32];omega
  have hV1:1<V:=by omega
  have q1:(V==1)=false:=by simp;omega
  have q2:decide (V=1)=false:=decide_eq_false (by omega);have q3:decide (V<0)=false:=decide_eq_false (by omega);have q4:decide (0<V)=true:=decide_eq_true (by omega);have q5:(V==0)=false:=by simp;omega
  have q6:decide (V=0)=false:=decide_eq_false (by omega);refine⟨_,(stepG_add_atomic rfl rfl (by k_ne) rfl H.f_addU64 (x_addU64_n L) (x_addU64_b L) (x_addU64_x L) .u64 (x_addU64_f L) rfl rfl hw.cellSt (hw.thaw 0)).trans (by rw[eS];rfl),Y6 (n:=110) ?_⟩;replace hF:=Kn.set hZ hx hF (stA Z.Wg) rfl (.int .u64 S) (hW _);clear hw hS hV eS hW;walk_nrm;iterate 3 (first|w_go Kn.rely|u_cnd true Kn.rely hF|u_cnd false Kn.rely hF)
  u_leave1 H.f_uAdd Kn.rely hF
  iterate 83 (first|w_go Kn.rely|u_cnd true Kn.rely hF|u_cnd false Kn.rely hF)
  refine Goes.stop (fun w₃ h₃=>?_);replace hF:=Kn.rely hF h₃;clear h₃;refine⟨rfl,_,stepG_unwind_entry (v:=.tuple #[]) (evs:=#[mk .enable]) rfl H.f_enable (x_enable_n L) (x_enable_b L) (x_enable_x L) (x_enable_f L) (by simp[Extern.Race.none_]) (by simp[mk]) (by simp[mk]),b5T (n:=2) ?_⟩;u_leave0 H.f_add (Kn.rely) hF
  exact Goes.stop fun w₄ h₄=>hT _ (Kn.rely hF h₄)
end
end
end Go.Mw
