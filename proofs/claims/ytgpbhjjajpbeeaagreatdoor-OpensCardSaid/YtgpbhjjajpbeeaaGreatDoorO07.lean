/- A part of what the last file proves. -/
import Derived.Test.YtgpbhjjajpbeeaaGreatDoorO06
import Derived.Conc.WgGenN
set_option linter.all false
namespace Go.Bi
section
structure Sit where
 ren:Nat->Nat
 D:Nat->Prop
 F:FuncId->Prop
 T:TypeId->Prop
 W:Nat->Prop
 K:Tmp->Value
 Kd:List Deferred
 Kk:CallKind
variable(S:Sit)
def rA(a:Addr):Addr:={a with block:=S.ren a.block}
@[simp] theorem Zh (a:Addr):(rA S a).off=a.off:=rfl
@[simp] theorem c22 (a:Addr):(rA S a).spot=a.spot:=rfl
@[simp] theorem Ge (a:Addr):(rA S a).block=S.ren a.block:=rfl
theorem zl(a:Addr)(n:Nat):rA S (a.add n)=(rA S a).add n:=by
 unfold Addr.add;split<;>rfl
theorem add_block(a:Addr)(n:Nat):(a.add n).block=a.block:=by unfold Addr.add;split<;>rfl
inductive jn:Fn->Fn->Prop
 | func (f:FuncId) (h:S.F f):jn (.func f) (.func f)
inductive VR:Value->Value->Prop
 | bool (b:Bool):VR (.bool b) (.bool b)
 | int (k:IntKind) (n:Int):VR (.int k n) (.int k n)
 | string (s:ByteArray):VR (.string s) (.string s)
 | jc:VR (.pointer none) (.pointer none)
 | ptr (a:Addr) (h:S.D a.block):VR (.pointer (some a)) (.pointer (some (rA S a)))
 | gy (n c:Nat):VR (.slice none n c) (.slice none n c)
 | slice (a:Addr) (n c:Nat) (h:S.D a.block):VR (.slice (some a) n c) (.slice (some (rA S a)) n c)
 | func (fn fn':Fn) (f f' c c':Array Value) (h:jn S fn fn') (hf:f.size=f'.size) (hf':∀(i:Nat)(h1:i<f.size)(h2:i<f'.size),VR f[i] f'[i])
  (hc:c.size=c'.size)(hc':∀(i:Nat)(h1:i<c.size)(h2:i<c'.size),VR c[i] c'[i]):VR (.func fn f c) (.func fn' f' c')
 | iface (t:TypeId) (v v':Value) (ht:S.T t) (h:VR v v'):VR (.iface t v) (.iface t v')
 | nilIface:VR .nilIface .nilIface
 | agg (c c':Array Value) (hc:c.size=c'.size) (hc':∀(i:Nat)(h1:i<c.size)(h2:i<c'.size),VR c[i] c'[i]):VR (.agg c) (.agg c')
 | tuple (c c':Array Value) (hc:c.size=c'.size) (hc':∀(i:Nat)(h1:i<c.size)(h2:i<c'.size),VR c[i] c'[i]):VR (.tuple c) (.tuple c')
structure AR(c c':Array Value):Prop where
 size:c.size=c'.size
 at_:∀(i:Nat)(h1:i<c.size)(h2:i<c'.size),VR S c[i] c'[i]
section
variable{S}
theorem VR.agg'{c c':Array Value}(h:AR S c c'):VR S (.agg c) (.agg c'):=.agg c c' h.size h.at_
theorem VR.tuple'{c c':Array Value}(h:AR S c c'):VR S (.tuple c) (.tuple c'):=.tuple c c' h.size h.at_
theorem AR.get?{c c':Array Value}(h:AR S c c')(i:Nat):(c[i]?=none/\c'[i]?=none)\/∃v v',c[i]?=some v/\c'[i]?=some v'/\VR S v v':=by
 by_cases hi:i<c.size
 ·exact .inr ⟨c[i],c'[i]'(h.size▸hi),by simp[hi],by simp[h.size▸hi],h.at_ i hi _⟩
 ·exact .inl ⟨by simp[hi],by simp[h.size▸hi]⟩
theorem AR.pG{c c':Array Value}(h:∀i:Nat,(c[i]?=none/\c'[i]?=none)\/∃v v',c[i]?=some v/\c'[i]?=some v'/\VR S v v'):AR S c c':=by
 have hs:c.size=c'.size:=by
  rcases Nat.lt_trichotomy c.size c'.size with h1|h1|h1
  ·rcases h c.size with⟨_,e⟩|⟨v,v',e,_⟩
   ·rw[jo] at e;omega
   ·simp at e
  ·exact h1
  ·rcases h c'.size with⟨e,_⟩|⟨v,v',_,e,_⟩
   ·rw[jo] at e;omega
   ·simp at e
 refine⟨hs,λi h1 h2=>?_⟩;rcases h i with⟨e,_⟩|⟨v,v',e,e',hv⟩
 ·rw[jo] at e;omega
 ·rw[bK h1] at e;rw[bK h2] at e';injection e with e;injection e' with e';rw[e,e'];exact hv
theorem AR.nil:AR S #[] #[]:=⟨rfl,λi h=>by simp at h⟩
theorem AR.push{c c':Array Value}(h:AR S c c'){v v':Value}(hv:VR S v v'):AR S (c.push v) (c'.push v'):=by
 refine AR.pG λi=>?_;rw[dN,dN,h.size];split
 ·exact .inr ⟨v,v',rfl,rfl,hv⟩
 ·exact h.get? i
theorem AR.one{v v':Value}(hv:VR S v v'):AR S #[v] #[v']:=AR.nil.push hv
theorem AR.append{c c' d d':Array Value}(h:AR S c c')(k:AR S d d'):AR S (c++d) (c'++d'):=by
 refine AR.pG λi=>?_;rw[j_,j_,h.size];split
 ·exact h.get? i
 ·exact k.get? _
theorem AR.set{c c':Array Value}(h:AR S c c')(i:Nat){v v':Value}(hv:VR S v v'):AR S (c.setIfInBounds i v) (c'.setIfInBounds i v'):=by
 refine AR.pG λj=>?_;rw[dI,dI,h.size];split
 ·split
  ·exact .inr ⟨v,v',rfl,rfl,hv⟩
  ·exact .inl ⟨rfl,rfl⟩
 ·exact h.get? j
theorem AR.replicate(n:Nat){v v':Value}(hv:VR S v v'):AR S (Array.replicate n v) (Array.replicate n v'):=
 ⟨by simp,λi h1 h2=>by simpa using hv⟩
theorem AR.getD{c c':Array Value}(h:AR S c c')(i:Nat){v v':Value}(hv:VR S v v'):VR S (c.getD i v) (c'.getD i v'):=by
 rw[aA,aA];rcases h.get? i with⟨e,e'⟩|⟨x,x',e,e',hx⟩
 ·rw[e,e'];exact hv
 ·rw[e,e'];exact hx
end
inductive LR{α β:Type}(R:α->β->Prop):List α->List β->Prop
 | nil:LR R [] []
 | cons {a:α} {b:β} {l:List α} {k:List β} (h:R a b) (t:LR R l k):LR R (a::l) (b::k)
def SX(fr' fr:Nat×Nat):Prop:=∀i,fr'.1<=i->i<fr'.2->fr.1<=i/\i<fr.2
theorem SX.refl(fr:Nat×Nat):SX fr fr:=λ_ h k=>⟨h,k⟩
inductive xk:Obj->Obj->Prop
 | cells (c c':Array Value) (e:TypeId) (fr fr':Nat×Nat) (h:AR S c c') (hf:SX fr' fr):xk (.cells c e fr) (.cells c' e fr')
 | number (a:Addr) (lost:Bool) (h:S.D a.block):xk (.number a lost) (.number (rA S a) lost)
def fU:Mark->Prop
 | .extern _=>True
 | .noRoom=>True
 | _=>False
def Hs(P:Program){α:Type}:Sem α->Prop
 | .halt _=>True
 | .pure _=>False
 | .load _ _ k=>∀v,Hs P (k v)
 | .store _ _ _ k=>Hs P k
 | .new _ k=>∀r,Hs P (k r)
 | .shape _ k=>∀s,Hs P (k s)
 | .freeze _ _ k=>Hs P k
 | .frozen _ k=>∀b,Hs P (k b)
 | .getObj _ k=>∀o,Hs P (k o)
 | .setObj _ _ k=>Hs P k
 | .choose _ k=>∀n,Hs P (k n)
 | .sys _ k=>∀r,Hs P (k r)
 | .program k=>Hs P (k P)
 | .mark _ k=>Hs P k
theorem Hs.bind{P:Program}{α β:Type}{s:Sem α}{f:α->Sem β}(h:Hs P s):Hs P (s >>= f):=by
 show Hs P (s.bind f)
 induction s with
 | halt _=>trivial
 | pure _=>exact h.elim
 | load _ _ k ih=>exactλv=>ih v (h v)
 | store _ _ _ k ih=>exact ih h
 | new _ k ih=>exactλv=>ih v (h v)
 | shape _ k ih=>exactλv=>ih v (h v)
 | freeze _ _ k ih=>exact ih h
 | frozen _ k ih=>exactλv=>ih v (h v)
 | getObj _ k ih=>exactλv=>ih v (h v)
 | setObj _ _ k ih=>exact ih h
 | choose _ k ih=>exactλv=>ih v (h v)
 | sys _ k ih=>exactλv=>ih v (h v)
 | program k ih=>exact ih _ h
 | mark _ k ih=>exact ih h
theorem Hs.behind{P:Program}{α β:Type}(s:Sem α){f:α->Sem β}(h:∀a,Hs P (f a)):Hs P (s >>= f):=by
 show Hs P (s.bind f)
 induction s with
 | halt _=>trivial
 | pure a=>exact h a
 | load _ _ k ih=>exactλv=>ih v
 | store _ _ _ k ih=>exact ih
 | new _ k ih=>exactλv=>ih v
 | shape _ k ih=>exactλv=>ih v
 | freeze _ _ k ih=>exact ih
 | frozen _ k ih=>exactλv=>ih v
 | getObj _ k ih=>exactλv=>ih v
 | setObj _ _ k ih=>exact ih
 | choose _ k ih=>exactλv=>ih v
 | sys _ k ih=>exactλv=>ih v
 | program k ih=>exact ih _
 | mark _ k ih=>exact ih
theorem Hs.run{P:Program}{α:Type}{s:Sem α}(h:Hs P s){w u:World}{a:α}:s.run P w≠.ok a u:=by
 induction s generalizing w with
 | halt _=>exactλe=>by cases e
 | pure _=>exact h.elim
 | load m a k ih=>
  intro e;simp only[Sem.run] at e;split at e
  ·exact ih _ (h _) e
  ·split at e
   ·exact ih _ (h _) e
   ·cases e
 | store m x v k ih=>
  intro e;have e1:(Sem.store m x v k).run P w=.halt (.stuck "store: not the value of one cell") w\/(Sem.store m x v k).run P w=match w.cell? x with|some _=>if w.frozen? x then .halt (.unsupported (.unsafePointer "a write to bytes that a string shares")) w else k.run P (w.setCell x v)|none=>match w.farStore P x v (m==.atomic) with|.ok (w,_)=>k.run P w|.error h=>.halt h w:=by
   cases v<;>first|exact .inl rfl|exact .inr rfl
  rcases e1 with e1|e1
  ·rw[e1] at e;cases e
  rw[e1] at e;split at e
  ·split at e
   ·cases e
   ·exact ih h (w:=w.setCell x v) e
  ·split at e
   ·exact ih h e
   ·cases e
 | new o k ih=>exactλe=>ih _ (h _) (w:={w with heap:=w.heap.push o}) e
 | shape r k ih=>exactλe=>ih _ (h _) e
 | freeze x n k ih=>exactλe=>ih h (w:=w.freeze x n) e
 | frozen a k ih=>exactλe=>ih _ (h _) e
 | getObj r k ih=>
  intro e;simp only[Sem.run] at e;split at e
  ·cases e
  ·exact ih _ (h _) e
  ·cases e
 | setObj r o k ih=>
  intro e;simp only[Sem.run] at e;split at e
  ·cases e
  ·exact ih h (w:={w with heap:=w.heap.setIfInBounds r o}) e
  ·cases e
 | choose q k ih=>
  intro e;simp only[Sem.run] at e;split at e
  ·exact ih _ (h _) e
  ·exact ih _ (h _) (w:={w with drawn:=w.drawn+1}) e
 | sys c k ih=>exactλe=>ih _ (h _) (w:=(w.sys c).2) e
 | program k ih=>exactλe=>ih _ h e
 | mark m k ih=>exactλe=>ih h e
def Im(P:Program){α β:Type}(R:α->β->Prop):Sem α->Sem β->Prop
 | .halt _,_=>True
 | .pure a,.pure b=>R a b
 | .load m a k,.load m' a' k'=>m=.plain/\m'=.plain/\S.D a.block/\a'=rA S a/\∀v v',VR S v v'->Im P R (k v) (k' v')
 | .store m a v k,.store m' a' v' k'=>m=.plain/\m'=.plain/\S.D a.block/\a'=rA S a/\VR S v v'/\Im P R k k'
 | .new o k,.new o' k'=>xk S o o'/\∀r,S.D r->Im P R (k r) (k' (S.ren r))
 | .shape r k,s'=>(∀s,Hs P (k s))\/(match s' with|.shape r' k'=>S.D r/\r'=S.ren r/\∀s,Im P R (k s) (k' s)|_=>False)
 | .getObj r k,.getObj r' k'=>S.D r/\r'=S.ren r/\∀a l,S.D a.block->Im P R (k (.number a l)) (k' (.number (rA S a) l))
 | .choose q k,.choose q' k'=>q'=q/\∀n,Im P R (k n) (k' n)
 | .program k,.program k'=>Im P R (k P) (k' P)
 | .mark m k,.mark m' k'=>m'=m/\fU m/\Im P R k k'
 | _,_=>False
section
variable{S}{P:Program}
theorem Im.halt{α β:Type}{R:α->β->Prop}(x:Halt)(s:Sem β):Im S P R (.halt x) s:=by cases s<;>trivial
theorem Im.nR{α β:Type}{R:α->β->Prop}{r:Nat}{k:Option (TypeId×Nat)->Sem α}{s':Sem β}(h:Im S P R (.shape r k) s'):(∀s,Hs P (k s))\/∃k',s'=.shape (S.ren r) k'/\S.D r/\∀s,Im S P R (k s) (k' s):=by
 cases s'<;>rcases h with h|h<;>first|exact .inl h|exact h.elim|exact .inr ⟨_,by rw[h.2.1],h.1,h.2.2⟩
theorem Im.qX{α β:Type}{R:α->β->Prop}{r:Nat}{k:Option (TypeId×Nat)->Sem α}{s':Sem β}(h:∀s,Hs P (k s)):Im S P R (.shape r k) s':=by
 cases s'<;>exact .inl h
theorem Im.bind{α α' β β':Type}{R:α->α'->Prop}{Q:β->β'->Prop}{s:Sem α}{s':Sem α'}{f:α->Sem β}{f':α'->Sem β'}(h:Im S P R s s')(hf:∀a a',R a a'->Im S P Q (f a) (f' a')):
 Im S P Q (s >>= f) (s' >>= f'):=by
 show Im S P Q (s.bind f) (s'.bind f')
 induction s generalizing s' with
 | halt _=>exact Im.halt _ _
 | getObj r k ih=>cases s'<;>first|exact h.elim|exact⟨h.1,h.2.1,λa l ha=>ih _ (h.2.2 a l ha)⟩
 | setObj r o k ih=>cases s'<;>exact h.elim
 | pure a=>cases s'<;>first|exact hf _ _ h|exact h.elim
 | load m a k ih=>cases s'<;>first|exact h.elim|exact⟨h.1,h.2.1,h.2.2.1,h.2.2.2.1,λv v' hv=>ih v (h.2.2.2.2 v v' hv)⟩
 | store m a v k ih=>cases s'<;>first|exact h.elim|exact⟨h.1,h.2.1,h.2.2.1,h.2.2.2.1,h.2.2.2.2.1,ih h.2.2.2.2.2⟩
 | new o k ih=>cases s'<;>first|exact h.elim|exact⟨h.1,λr hr=>ih r (h.2 r hr)⟩
 | shape r k ih=>
  rcases h.nR with h|⟨k',rfl,hD,h⟩
  ·exact Im.qX λs=>Hs.bind (h s)
  ·exact .inr ⟨hD,rfl,λs=>ih s (h s)⟩
 | freeze a n k ih=>cases s'<;>exact h.elim
 | frozen a k ih=>cases s'<;>exact h.elim
 | choose q k ih=>cases s'<;>first|exact h.elim|exact⟨h.1,λn=>ih n (h.2 n)⟩
 | sys c k ih=>cases s'<;>exact h.elim
 | program k ih=>cases s'<;>first|exact h.elim|exact ih P h
 | mark m k ih=>cases s'<;>first|exact h.elim|exact⟨h.1,h.2.1,ih h.2.2⟩
theorem Im.pure{α β:Type}{R:α->β->Prop}{a:α}{b:β}(h:R a b):Im S P R (Pure.pure a) (Pure.pure b):=h
end
structure WR(w w':World):Prop where
 inj:∀a b,S.D a->S.D b->S.ren a=S.ren b->a=b
 fresh:∀b,w.heap.size<=b->S.D b->w'.heap.size<=S.ren b
 obj:∀b,S.D b->b<w.heap.size->∃o o',w.heap[b]?=some o/\w'.heap[S.ren b]?=some o'/\xk S o o'
 ro:∀b c e fr,S.D b->¬S.W b->w.heap[b]?=some (.cells c e fr)->∀i,i<c.size->fr.1<=i/\i<fr.2
section
variable{S}
theorem lt_of_some{α:Type}{l:Array α}{i:Nat}{o:α}(h:l[i]?=some o):i<l.size:=by
 rcases aX i l.size with h1|h1
 ·exact h1
 ·rw[aW h1] at h;cases h
theorem WR.get{w w':World}(h:WR S w w'){b:Nat}(hD:S.D b){o:Obj}(ho:w.heap[b]?=some o):∃o',w'.heap[S.ren b]?=some o'/\xk S o o':=by
 obtain⟨x,o',e,e',hx⟩:=h.obj b hD (lt_of_some ho);rw[ho] at e;injection e with e;subst e;exact⟨o',e',hx⟩
theorem WR.cell{w w':World}(h:WR S w w'){a:Addr}(hD:S.D a.block){v:Value}(hv:w.cell? a=some v):∃v',w'.cell? (rA S a)=some v'/\VR S v v':=by
 unfold World.cell? at hv⊢
 cases ho:w.heap[a.block]? with
 | none=>rw[ho] at hv;cases hv
 | some o=>
  obtain⟨o',e',hx⟩:=h.get hD ho;rw[ho] at hv;rw[show w'.heap[(rA S a).block]?=some o' from e']
  cases hx with
  | number=>cases hv
  | cells c c' e fr fr' hc _=>
   dsimp only at hv;show ∃v',(if a.spot.isSome=true then none else c'[a.off]?)=some v'/\VR S v v';split at hv
   ·cases hv
   ·rename_i hs;rw[if_neg hs];rcases hc.get? a.off with⟨e1,_⟩|⟨x,x',e1,e2,hx⟩
    ·rw[e1] at hv;cases hv
    ·rw[e1] at hv;injection hv with hv;subst hv;exact⟨x',e2,hx⟩
theorem WR.far{w w':World}(h:WR S w w')(P:Program){a:Addr}(hD:S.D a.block)(at_:Bool):∃x,w.farLoad P a at_=.error x:=by
 unfold World.farLoad
 cases ho:w.heap[a.block]? with
 | none=>exact⟨_,rfl⟩
 | some o=>
  obtain⟨o',e',hx⟩:=h.get hD ho;cases hx<;>exact⟨_,rfl⟩
theorem WR.BQ{w w':World}(h:WR S w w')(P:Program){a:Addr}(hD:S.D a.block)(v:Value)(at_:Bool):∃x,w.farStore P a v at_=.error x:=by
 unfold World.farStore
 cases ho:w.heap[a.block]? with
 | none=>exact⟨_,rfl⟩
 | some o=>
  obtain⟨o',e',hx⟩:=h.get hD ho;cases hx<;>exact⟨_,rfl⟩
theorem WR.out{w w':World}(h:WR S w w'){b:Nat}(hD:S.D b)(hn:w.heap[b]?=none):w'.heap[S.ren b]?=none:=by
 rw[jo] at hn⊢;exact h.fresh b hn hD
theorem WR.shape{w w':World}(h:WR S w w'){r:Nat}(hD:S.D r):w'.shape? (S.ren r)=w.shape? r:=by
 unfold World.shape?
 cases ho:w.heap[r]? with
 | none=>rw[h.out hD ho]
 | some o=>
  obtain⟨o',e',hx⟩:=h.get hD ho;rw[e']
  cases hx with
  | number=>rfl
  | cells c c' e fr fr' hc _=>simp[hc.size]
theorem WR.thaw{w w':World}(h:WR S w w'){a:Addr}(hD:S.D a.block){v:Value}(hv:w.cell? a=some v)(hf:w.frozen? a=false):w'.frozen? (rA S a)=false/\S.W a.block:=by
 unfold World.cell? at hv;unfold World.frozen? at hf⊢
 cases ho:w.heap[a.block]? with
 | none=>rw[ho] at hv;cases hv
 | some o=>
  obtain⟨o',e',hx⟩:=h.get hD ho;rw[ho] at hv hf;rw[Ge,e']
  cases hx with
  | number=>cases hv
  | cells c c' e fr fr' hc hle=>
   obtain⟨lo,hi⟩:=fr;obtain⟨lo',hi'⟩:=fr';dsimp only at hv hf⊢;have hlt:a.off<c.size:=by
    split at hv
    ·cases hv
    ·exact lt_of_some hv
   refine⟨?_,dB λhn=>?_⟩
   ·cases hd:(decide (lo'<=(rA S a).off)&&decide ((rA S a).off<hi')) with
    | false=>rfl
    | true=>
     simp only[aH,dQ,Zh] at hd;have:=hle a.off (dF hd.1) (dF hd.2);simp[this.1,this.2] at hf
   ·have:=h.ro a.block c e (lo,hi) hD hn ho a.off hlt;simp[this.1,this.2] at hf
theorem WR.setCell{w w':World}(h:WR S w w'){a:Addr}(hD:S.D a.block)(hW:S.W a.block){v v':Value}(hv:VR S v v'):WR S (w.setCell a v) (w'.setCell (rA S a) v'):=by
 have hsz:∀(w:World)a v,(World.setCell w a v).heap.size=w.heap.size:=λw a v=>by simp[World.setCell]
 refine⟨h.inj,λb hb hD=>by rw[hsz];exact h.fresh b (by rw[hsz] at hb;exact hb) hD,λb hb hlt=>?_,λb c e fr hb hn ho=>?_⟩
 ·rw[hsz] at hlt;obtain⟨x,x',e1,e2,hx⟩:=h.obj b hb hlt;by_cases e:b=a.block
  ·subst e
   cases hx with
   | number a0 l ha=>exact⟨.number a0 l,.number (rA S a0) l,by simp[World.setCell,aO,e1],by simp[World.setCell,aO,e2],.number _ _ ha⟩
   | cells c c' e0 fr fr' hc hle=>
    refine⟨.cells (if a.spot.isSome then c else c.setIfInBounds a.off v) e0 fr,.cells (if a.spot.isSome then c' else c'.setIfInBounds a.off v') e0 fr',?_,?_,.cells _ _ _ _ _ ?_ hle⟩
    ·simp[World.setCell,aO,e1]
    ·simp[World.setCell,aO,e2];rfl
    ·split
     ·exact hc
     ·exact hc.set _ hv
  ·refine⟨x,x',?_,?_,hx⟩
   ·simp[World.setCell,aO,bP e,e1]
   ·have:¬S.ren a.block=S.ren b:=λe'=>e (h.inj _ _ hb hD e'.symm);simp[World.setCell,aO,this,e2]
 ·have hne:¬a.block=b:=λe=>hn (e▸hW);refine h.ro b c e fr hb hn ?_;simpa [World.setCell,aO,hne] using ho
theorem WR.new{w w':World}(h:WR S w w')(hD:S.D w.heap.size)(hW:S.W w.heap.size)(hr:S.ren w.heap.size=w'.heap.size){o o':Obj}(hx:xk S o o'):WR S {w with heap:=w.heap.push o} {w' with heap:=w'.heap.push o'}:=by
 refine⟨h.inj,λb hb pH=>?_,λb hb hlt=>?_,λb c e fr hb hn ho=>?_⟩
 ·simp only[fJ] at hb⊢;have h1:=h.fresh b (by omega) pH;have:S.ren b≠w'.heap.size:=λe=>by
   have:=h.inj b w.heap.size pH hD (e.trans hr.symm);omega
  omega
 ·simp only[fJ] at hlt;by_cases e:b=w.heap.size
  ·subst e;exact⟨o,o',by simp,by simp[hr],hx⟩
  ·obtain⟨x,x',e1,e2,hx⟩:=h.obj b hb (by omega);refine⟨x,x',?_,?_,hx⟩
   ·show(w.heap.push o)[b]?=_;rw[dN,if_neg e];exact e1
   ·have:S.ren b<w'.heap.size:=lt_of_some e2;show(w'.heap.push o')[S.ren b]?=_;rw[dN,if_neg (by omega)];exact e2
 ·have ho':(w.heap.push o)[b]?=some (.cells c e fr):=ho;rw[dN] at ho';split at ho'
  ·rename_i e1;exact absurd (e1▸hW) hn
  ·exact h.ro b c e fr hb hn ho'
theorem WR.draw{w w':World}(h:WR S w w')(d d':Nat):WR S {w with drawn:=d} {w' with drawn:=d'}:=⟨h.inj,h.fresh,h.obj,h.ro⟩
end
def jd(B:Nat)(e:Event):Prop:=
 match e.loc with
 | .cell a=>e.sync=false/\(∃b,S.D b/\S.ren b=a.block/\(e.write=true->S.W b))/\a.block<B
 | .obj r=>e.sync=false/\(∃b,S.D b/\S.ren b=r)/\e.write=false/\r<B
 | .mark m=>fU m
 | _=>False
section
variable{S}{P:Program}
theorem jd.mono{B B':Nat}(hB:B<=B'){e:Event}(h:jd S B e):jd S B' e:=by
 unfold jd at *;split at h
 ·exact⟨h.1,h.2.1,ak h.2.2 hB⟩
 ·exact⟨h.1,h.2.1,h.2.2.1,ak h.2.2.2 hB⟩
 ·exact h
 ·exact h.elim
structure uh(w w' u u':World):Prop where
 size:w.heap.size<=u.heap.size
 size':u'.heap.size=w'.heap.size+(u.heap.size - w.heap.size)
 drawn:w.drawn<=u.drawn
 drawn':u'.drawn=w'.drawn+(u.drawn - w.drawn)
 tape:u.tape=w.tape
 tape':u'.tape=w'.tape
 os':u'.os=w'.os
 output':u'.output=w'.output
 old:∀b,b<w'.heap.size->(∀a,S.D a->S.W a->a<w.heap.size->S.ren a≠b)->u'.heap[b]?=w'.heap[b]?
theorem uh.refl(w w':World):uh (S:=S) w w' w w':=⟨aj _,by omega,aj _,by omega,rfl,rfl,rfl,rfl,λ_ _ _=>rfl⟩
theorem uh.trans{w w' v v' u u':World}(h:uh (S:=S) w w' v v')(k:uh (S:=S) v v' u u')(hr:∀i,i<v.heap.size - w.heap.size->S.ren (w.heap.size+i)=w'.heap.size+i):uh (S:=S) w w' u u':=by
 refine⟨ay h.size k.size,?_,ay h.drawn k.drawn,?_,k.tape.trans h.tape,k.tape'.trans h.tape',k.os'.trans h.os',k.output'.trans h.output',λb hb hn=>?_⟩
 ·have:=h.size;have:=k.size;have:=h.size';have:=k.size';omega
 ·have:=h.drawn;have:=k.drawn;have:=h.drawn';have:=k.drawn';omega
 ·refine(k.old b (by have:=h.size';omega) λa ha hW hlt e=>?_).trans (h.old b hb hn);by_cases hl:a<w.heap.size
  ·exact hn a ha hW hl e
  ·have:=hr (a - w.heap.size) (by omega);rw[show w.heap.size+(a - w.heap.size)=a by omega] at this;omega
def Runs{α β:Type}(R:α->β->Prop)(P:Program)(s':Sem β)(w w':World)(a:α)(u:World):Prop:=
 ∀es':Array Event,∃b u' new,s'.runT P w' es'=(.ok b u',es'++new)/\R a b/\WR S u u'/\uh (S:=S) w w' u u'/\∀e∈new,jd S u'.heap.size e
theorem Runs.step{α β:Type}{R:α->β->Prop}{s' t':Sem β}{w w' v v' u:World}{a:α}{e1:Array Event}(h:Runs (S:=S) R P t' v v' a u)(hs:∀es,s'.runT P w' es=t'.runT P v' (es++e1))(hM:uh (S:=S) w w' v v')
 (hr:∀i,i<v.heap.size - w.heap.size->S.ren (w.heap.size+i)=w'.heap.size+i)(he:∀e∈e1,jd S v'.heap.size e):Runs (S:=S) R P s' w w' a u:=by
 intro es;obtain⟨b,u',new,h1,h2,h3,h4,h5⟩:=h (es++e1);refine⟨b,u',e1++new,by rw[hs,h1,gU],h2,h3,hM.trans h4 hr,λe hm=>?_⟩;rcases dh.1 hm with hm|hm
 ·exact(he e hm).mono (by have:=h4.size';omega)
 ·exact h5 e hm
theorem b7i{α:Type}(w:World)(k:Ask α):w.drawn<=(w.ask k).2.drawn/\(w.ask k).2.tape=w.tape:=by
 induction k generalizing w with
 | done a=>exact⟨aj _,rfl⟩
 | ask what range k ih=>
  unfold Go.World.ask;dsimp only;split
  ·exact ih _ _
  ·have:=ih ((Question.extern what range).cut (w.tape w.drawn (.extern what range))) {w with drawn:=w.drawn+1};exact⟨ay (qy _) this.1,this.2⟩
theorem b7j(w:World)(c:Sys):w.drawn<=(w.sys c).2.drawn/\(w.sys c).2.tape=w.tape:=by
 have:=b7i w (Kernel.perform c w.os);unfold Go.World.sys;split
 ·exact⟨aj _,rfl⟩
 ·rename_i h1;rw[h1] at this;exact this
theorem a8M{P:Program}{w w':World}{a:Addr}{v:Value}{at_:Bool}{l:List Addr}(h:w.farStore P a v at_=.ok (w',l)):w'.drawn=w.drawn/\w'.tape=w.tape:=by
 unfold World.farStore at h;split at h
 ·split at h
  ·rename_i h1;injection h with h;subst h;rename_i at0 u _ _;unfold World.viewStore at h1;by_cases ht:(!tight P P.depth u)=true
   ·rw[if_pos ht] at h1;cases h1
   rw[if_neg ht] at h1;obtain⟨⟨c,e,fr,first,like,cells⟩,-,h2⟩:=Zn.bind_ok h1;dsimp only at h2;split at h2
   case h_2=>cases h2
   rename_i bytes _;by_cases hl:some bytes.length≠like.bytes?.map (·.length)
   ·rw[if_pos hl] at h2;cases h2
   rw[if_neg hl] at h2;obtain⟨c',-,h5⟩:=Zn.bind_ok h2;injection h5 with h5;injection h5 with h5 h6;subst h5;exact⟨rfl,rfl⟩
  ·cases h
 ·cases h
theorem Lx{α:Type}{s:Sem α}{w u:World}{a:α}(hr:s.run P w=.ok a u):w.drawn<=u.drawn/\u.tape=w.tape:=by
 induction s generalizing w with
 | halt x=>cases hr
 | pure x=>injection hr with e1 e2;subst e2;exact⟨aj _,rfl⟩
 | load m a k ih=>
  simp only[Sem.run] at hr;split at hr
  ·exact ih _ hr
  ·split at hr
   ·exact ih _ hr
   ·cases hr
 | store m x v k ih=>
  have e1:(Sem.store m x v k).run P w=.halt (.stuck "store: not the value of one cell") w\/(Sem.store m x v k).run P w=match w.cell? x with|some _=>if w.frozen? x then .halt (.unsupported (.unsafePointer "a write to bytes that a string shares")) w else k.run P (w.setCell x v)|none=>match w.farStore P x v (m==.atomic) with|.ok (w,_)=>k.run P w|.error h=>.halt h w:=by
   cases v<;>first|exact .inl rfl|exact .inr rfl
  rcases e1 with e1|e1
  ·rw[e1] at hr;cases hr
  rw[e1] at hr;split at hr
  ·split at hr
   ·cases hr
   ·exact ih (w:=w.setCell x v) hr
  ·split at hr
   ·rename_i h1;have:=a8M h1;have h2:=ih hr;rw[this.1,this.2] at h2;exact h2
   ·cases hr
 | new o k ih=>exact ih _ (w:={w with heap:=w.heap.push o}) hr
 | shape r k ih=>exact ih _ hr
 | freeze x n k ih=>
  have hdr:(w.freeze x n).drawn=w.drawn/\(w.freeze x n).tape=w.tape:=by unfold World.freeze;split<;>exact⟨rfl,rfl⟩
  have:=ih (w:=w.freeze x n) hr
  rw[hdr.1,hdr.2] at this;exact this
 | frozen a k ih=>exact ih _ hr
 | getObj r k ih=>
  simp only[Sem.run] at hr;split at hr
  ·cases hr
  ·exact ih _ hr
  ·cases hr
 | setObj r o k ih=>
  simp only[Sem.run] at hr;split at hr
  ·cases hr
  ·exact ih (w:={w with heap:=w.heap.setIfInBounds r o}) hr
  ·cases hr
 | choose q k ih=>
  simp only[Sem.run] at hr;split at hr
  ·exact ih _ hr
  ·have:=ih _ (w:={w with drawn:=w.drawn+1}) hr
   exact⟨ay (qy _) this.1,this.2⟩
 | sys c k ih=>
  simp only[Sem.run] at hr;have h1:=b7j w c;have:=ih _ (w:=(w.sys c).2) hr;rw[h1.2] at this
  exact⟨ay h1.1 this.1,this.2⟩
 | program k ih=>exact ih _ hr
 | mark m k ih=>exact ih hr
theorem F2{α:Type}{s:Sem α}{w u:World}{a:α}(hr:s.run P w=.ok a u):w.heap.size<=u.heap.size:=by
 have h1:=Zn.runT_size P s w #[];have h2:(s.runT P w #[]).1=.ok a u:=(Sem.runT_fst P s w #[]).trans hr;rw[h2] at h1;exact h1
theorem Im.run{α β:Type}{R:α->β->Prop}{s:Sem α}{s':Sem β}(h:Im S P R s s'){w w' u:World}{a:α}(hW:WR S w w')(hr:s.run P w=.ok a u)
 (hn:∀i,i<u.heap.size - w.heap.size->S.D (w.heap.size+i)/\S.W (w.heap.size+i)/\S.ren (w.heap.size+i)=w'.heap.size+i)(ht:∀i q,i<u.drawn - w.drawn->w'.tape (w'.drawn+i) q=w.tape (w.drawn+i) q):
 Runs (S:=S) R P s' w w' a u:=by
 induction s generalizing s' w w' with
 | halt x=>cases hr
 | pure x=>
  cases s' with
  | pure y=>
   injection hr with e1 e2;subst e1;subst e2
   exactλes=>⟨y,w',#[],by simp[Sem.runT],h,hW,uh.refl _ _,by simp⟩
  | _=>exact h.elim
 | load m x k ih=>
  cases s' with
  | load m' x' k'=>
   obtain⟨rfl,rfl,hD,rfl,hk⟩:=h
   cases hc:w.cell? x with
   | none=>
    obtain⟨y,hy⟩:=hW.far P hD (Mode.plain==Mode.atomic)
    simp only[Sem.run,hc,hy] at hr;cases hr
   | some v=>
    obtain⟨v',hc',hv⟩:=hW.cell hD hc;have hlt:(rA S x).block<w'.heap.size:=by
     rcases aX (rA S x).block w'.heap.size with h|h
     ·exact h
     ·unfold World.cell? at hc';rw[aW h] at hc';cases hc'
    simp only[Sem.run,hc] at hr;refine(ih v (hk v v' hv) hW hr hn ht).step (e1:=#[⟨.cell (rA S x),false,false⟩]) (λes=>?_) (uh.refl _ _) (λi hi=>by omega) ?_
    ·simp only[Sem.runT,hc'];rw[eP];rfl
    ·intro e he;simp at he;subst he;exact⟨rfl,⟨_,hD,rfl,by simp⟩,hlt⟩
  | _=>exact h.elim
 | store m x v k ih=>
  cases s' with
  | store m' x' v' k'=>
   obtain⟨rfl,rfl,hD,rfl,hv,hk⟩:=h;have hva:(∀c,v≠.agg c)/\(∀c,v≠.tuple c):=by
    refine⟨λc e=>?_,λc e=>?_⟩<;>(subst e;simp only[Sem.run] at hr;cases hr)
   have MZ:(∀c,v'≠.agg c)/\(∀c,v'≠.tuple c):=by
    refine⟨λc e=>?_,λc e=>?_⟩<;>subst e<;>cases hv
    ·exact hva.1 _ rfl
    ·exact hva.2 _ rfl
   have e1:(Sem.store Mode.plain x v k).run P w=match w.cell? x with|some _=>if w.frozen? x then .halt (.unsupported (.unsafePointer "a write to bytes that a string shares")) w else k.run P (w.setCell x v)|none=>match w.farStore P x v (Mode.plain==.atomic) with|.ok (w,_)=>k.run P w|.error h=>.halt h w:=by
    cases v<;>first|rfl|exact absurd rfl (hva.1 _)|exact absurd rfl (hva.2 _)
   have e2:∀es,(Sem.store Mode.plain (rA S x) v' k').runT P w' es=match w'.cell? (rA S x) with|some _=>if w'.frozen? (rA S x) then(.halt (.unsupported (.unsafePointer "a write to bytes that a string shares")) w',es) else k'.runT P (w'.setCell (rA S x) v') (es.push ⟨.cell (rA S x),true,false⟩)|none=>match w'.farStore P (rA S x) v' (Mode.plain==.atomic) with|.ok (w,touched)=>k'.runT P w (es++touched.toArray.map (⟨.cell ·,true,Mode.plain==.atomic⟩))|.error h=>(.halt h w',es):=by
    intro es;cases v'<;>first|rfl|exact absurd rfl (MZ.1 _)|exact absurd rfl (MZ.2 _)
   rw[e1] at hr
   cases hc:w.cell? x with
   | none=>
    obtain⟨y,hy⟩:=hW.BQ P hD v (Mode.plain==Mode.atomic)
    simp only[hc,hy] at hr;cases hr
   | some y=>
    obtain⟨y',hc',_⟩:=hW.cell hD hc;have hlt:(rA S x).block<w'.heap.size:=by
     rcases aX (rA S x).block w'.heap.size with h|h
     ·exact h
     ·unfold World.cell? at hc';rw[aW h] at hc';cases hc'
    simp only[hc] at hr
    cases hf:w.frozen? x with
    | true=>rw[hf] at hr;cases hr
    | false=>
     obtain⟨hf',XW⟩:=hW.thaw hD hc hf;rw[hf] at hr;have hsz:(w.setCell x v).heap.size=w.heap.size:=by simp[World.setCell]
     have hsz':(w'.setCell (rA S x) v').heap.size=w'.heap.size:=by simp[World.setCell]
     refine(ih hk (hW.setCell hD XW hv) hr (by rw[hsz,hsz'];exact hn) ht).step (e1:=#[⟨.cell (rA S x),true,false⟩]) (λes=>?_) ?_ (λi hi=>by omega) ?_
     ·rw[e2,hc'];simp only[hf'];rw[eP];rfl
     ·exact⟨by omega,by omega,aj _,by show w'.drawn=w'.drawn+(w.drawn - w.drawn);omega,rfl,rfl,rfl,rfl,λb hb hne=>by
       have:(rA S x).block≠b:=hne x.block hD XW (by
        unfold World.cell? at hc;rcases aX x.block w.heap.size with h|h
        ·exact h
        ·rw[aW h] at hc;cases hc)
       simp[World.setCell,aO];exactλe=>absurd e this⟩
     ·intro e he;simp at he;subst he;exact⟨rfl,⟨_,hD,rfl,λ_=>XW⟩,by rw[hsz'];exact hlt⟩
  | _=>exact h.elim
 | new o k ih=>
  cases s' with
  | new o' k'=>
   obtain⟨ho,hk⟩:=h;simp only[Sem.run] at hr;have k1:=F2 hr;have k1':w.heap.size+1<=u.heap.size:=by simpa using k1
   obtain⟨hD,rh,h0⟩:S.D w.heap.size/\S.W w.heap.size/\S.ren w.heap.size=w'.heap.size:=by simpa using hn 0 (by omega)
   have hk0:=hk _ hD;rw[h0] at hk0;refine(ih _ hk0 (hW.new hD rh h0 ho) hr (λi hi=>by
    simp only[fJ] at hi⊢;have:=hn (i+1) (by omega);rw[show w.heap.size+(i+1)=w.heap.size+1+i by omega] at this;exact⟨this.1,this.2.1,by rw[this.2.2];omega⟩) ht).step (e1:=#[]) (λes=>by simp[Sem.runT]) ?_ (λi hi=>?_) (by simp)
   ·refine⟨by simp,by simp,aj _,by show w'.drawn=w'.drawn+(w.drawn - w.drawn);omega,rfl,rfl,rfl,rfl,λb hb _=>?_⟩;show(w'.heap.push o')[b]?=_;rw[dN,if_neg (by omega)]
   ·simp at hi;have:i=0:=by omega
    subst this;simpa using h0
  | _=>exact h.elim
 | shape r k ih=>
  rcases h.nR with h|⟨k',rfl,hD,hk⟩
  ·exact absurd hr (Hs.run (h _))
  ·exact(ih _ (hk _) hW hr hn ht).step (e1:=#[]) (λes=>by simp[Sem.runT,hW.shape hD]) (uh.refl _ _) (λi hi=>by omega) (by simp)
 | freeze x n k ih=>cases s'<;>exact h.elim
 | frozen x k ih=>cases s'<;>exact h.elim
 | getObj r k ih=>
  cases s' with
  | getObj r' k'=>
   obtain⟨hD,rfl,hk⟩:=h;simp only[Sem.run] at hr
   cases ho:w.heap[r]? with
   | none=>rw[ho] at hr;cases hr
   | some o=>
    obtain⟨o',ho',hx⟩:=hW.get hD ho;rw[ho] at hr
    cases hx with
    | cells=>cases hr
    | number a l ha=>
     refine(ih _ (hk a l ha) hW hr hn ht).step (e1:=#[⟨.obj (S.ren r),false,false⟩]) (λes=>?_) (uh.refl _ _) (λi hi=>by omega) ?_
     ·simp only[Sem.runT,ho',eP];rfl
     ·intro e he;simp at he;subst he;exact⟨rfl,⟨_,hD,rfl⟩,rfl,lt_of_some ho'⟩
  | _=>exact h.elim
 | setObj r o k ih=>cases s'<;>exact h.elim
 | choose q k ih=>
  cases s' with
  | choose q' k'=>
   obtain⟨rfl,hk⟩:=h;simp only[Sem.run] at hr;by_cases hf:q'.forced=true
   ·rw[if_pos hf] at hr;exact(ih _ (hk _) hW hr hn ht).step (e1:=#[]) (λes=>by simp[Sem.runT,hf]) (uh.refl _ _) (λi hi=>by omega) (by simp)
   ·rw[if_neg hf] at hr;have hd:w.drawn+1<=u.drawn:=(Lx hr).1;have h0:w'.tape w'.drawn q'=w.tape w.drawn q':=by simpa using ht 0 q' (by omega)
    refine(ih _ (hk (q'.cut (w.tape w.drawn q'))) (hW.draw (w.drawn+1) (w'.drawn+1)) hr hn (λi q hi=>by
     have:=ht (i+1) q (by simp at hi;omega);simpa [jF,Nat.add_comm 1 i] using this)).step (e1:=#[]) (λes=>by simp[Sem.runT,hf,h0]) ?_ (λi hi=>by simp at hi) (by simp)
    exact⟨aj _,by simp,by simp,by simp,rfl,rfl,rfl,rfl,λ_ _ _=>rfl⟩
  | _=>exact h.elim
 | sys c k ih=>cases s'<;>exact h.elim
 | program k ih=>
  cases s' with
  | program k'=>exact(ih P h hW hr hn ht).step (e1:=#[]) (λes=>by simp[Sem.runT]) (uh.refl _ _) (λi hi=>by omega) (by simp)
  | _=>exact h.elim
 | mark m k ih=>
  cases s' with
  | mark m' k'=>
   obtain⟨rfl,hm,hk⟩:=h;refine(ih hk hW hr hn ht).step (e1:=#[⟨.mark m',false,true⟩]) (λes=>by simp[Sem.runT]) (uh.refl _ _) (λi hi=>by omega) ?_
   intro e he;simp at he;subst he;exact hm
  | _=>exact h.elim
end
end
end Go.Bi
namespace Go.Mc
section
open Go.Conc
open Go.ConcR (KK wgBlock WgAt stA smA rd wr mk DC0 Bk)
open Go.ConcN (WgLive ShN)
structure Pz where
 P:Program
 ty:TypeId
 Wg:Nat
 Al:Nat
 Wx:TypeId
 Cb:Nat
 Fe:TypeId
 c:Nat
 n:Nat
 L0:Nat
 lN:Nat->Prop
 wS:Nat->Prop
 kG:Nat->Nat->(Nat->Prop)->World->Prop
 e0:Nat
 v0:Value
variable(Z:Pz)
def iT(i k:Nat):Prop:=k=2*i\/k=2*i+1
def kY(w:World):Prop:=∃v:Int,w.heap[Z.Al]?=some (.cells #[.int .i64 v] Z.Wx)
def kS(w:World):Prop:=∃cs:Array Value,w.heap[Z.Cb]?=some (.cells cs Z.Fe)/\cs.size=2*Z.n
structure jY:Prop where
 c:0<Z.c
 WA:Z.Wg≠Z.Al
 WC:Z.Wg≠Z.Cb
 AC:Z.Al≠Z.Cb
 W0:Z.Wg<Z.L0
 A0:Z.Al<Z.L0
 C0:Z.Cb<Z.L0
 iP:∀b,Z.lN b->b<Z.L0/\b≠Z.Wg/\b≠Z.Al/\b≠Z.Cb/\¬Z.wS b
 sh:∀b,Z.wS b->b<Z.L0/\b≠Z.Wg/\b≠Z.Al/\b≠Z.Cb
 e0:Z.lN Z.e0
 res:∀i bx O w w',w.heap.size<=w'.heap.size->w'.heap[bx]?=w.heap[bx]?->(∀b,O b->w'.heap[b]?=w.heap[b]?)->(∀k,iT i k->w'.cell? ⟨Z.Cb,k,none⟩=w.cell? ⟨Z.Cb,k,none⟩)->Z.kG i bx O w->Z.kG i bx O w'
structure RW(i bx:Nat)(O:Nat->Prop)(w w₁:World):Prop where
 size:w.heap.size<=w₁.heap.size
 iP:∀b,Z.lN b->w₁.heap[b]?=w.heap[b]?
 box:w₁.heap[bx]?=w.heap[bx]?
 own:∀b,O b->w₁.heap[b]?=w.heap[b]?
 live:WgLive Z.ty Z.Wg w->WgLive Z.ty Z.Wg w₁
 al:kY Z w->kY Z w₁
 cb:kS Z w->kS Z w₁
 cell:∀k,iT i k->w₁.cell? ⟨Z.Cb,k,none⟩=w.cell? ⟨Z.Cb,k,none⟩
theorem RW.refl(i bx:Nat)(O:Nat->Prop)(w:World):RW Z i bx O w w:=⟨aj _,λ_ _=>rfl,rfl,λ_ _=>rfl,id,id,id,λ_ _=>rfl⟩
theorem RW.trans{i bx:Nat}{O:Nat->Prop}{a b d:World}(h:RW Z i bx O a b)(k:RW Z i bx O b d):RW Z i bx O a d:=
 ⟨ay h.size k.size,λx y=>(k.iP x y).trans (h.iP x y),k.box.trans h.box,λx y=>(k.own x y).trans (h.own x y),k.live∘h.live,k.al∘h.al,k.cb∘h.cb,λx y=>(k.cell x y).trans (h.cell x y)⟩
def EvW(i bx:Nat)(O:Nat->Prop)(B:Nat)(e:Event):Prop:=
 match e.loc with
 | .cell a=>a.block<B/\((a.block=Z.Al/\e.sync=true)\/(e.sync=false/\(O a.block\/(a.block=Z.Cb/\a.spot=none/\iT i a.off)\/((Z.lN a.block\/a.block=bx)/\e.write=false))))
 | .obj r=>r<B/\e.sync=false/\(O r\/((Z.lN r\/r=bx)/\e.write=false))
 | .mark m=>Bi.fU m
 | _=>False
structure DW(i bx:Nat)(O O':Nat->Prop)(w w':World)(es:Array Event):Prop where
 size:w.heap.size<=w'.heap.size
 tape:w'.tape=w.tape
 os:w'.os=w.os
 output:w'.output=w.output
 old:∀b,b<w.heap.size->¬O b->b≠Z.Al->b≠Z.Cb->w'.heap[b]?=w.heap[b]?
 al:kY Z w->kY Z w'
 cb:kS Z w->kS Z w'
 cell:∀k,¬iT i k->w'.cell? ⟨Z.Cb,k,none⟩=w.cell? ⟨Z.Cb,k,none⟩
 more:∀b,O b->O' b
 new:∀b,O' b->O b\/w.heap.size<=b
 MR:∀b,O' b->b<w'.heap.size
 ev:∀e∈es,EvW Z i bx O' w'.heap.size e
section
variable[Go.ConcR.Payload]
abbrev JI:Nat->Loc->Prop:=λ_ _=>False
def RX(i bx:Nat)(O:Nat->Prop)(g:Goroutine)(w:World):Prop:=ConcN.AtR0 Z.P Z.ty Z.Wg Z.e0 Z.n 0 1 Z.v0 g w/\Z.kG i bx O w
def Works(i bx:Nat)(g:Goroutine)(w:World):Prop:=∃T,Wk Z.P false (RW Z i bx) (DW Z i bx) (RX Z i bx) T (λ_=>False) g w
def zV:Nat->Tr
 | 0=>.leaf
 | m+1=>.node λ_=>zV m
theorem uL(m:Nat):qc (zV m) (zV (m+1)):=.mk (λ_=>zV m) default
inductive WS(i bx:Nat)(O:Nat->Prop):Nat->Tr->Nat->Goroutine->World->Prop
 | work (T:Tr) (g:Goroutine) (w:World) (h:Wk Z.P false (RW Z i bx) (DW Z i bx) (RX Z i bx) T O g w):WS i bx O 7 T 0 g w
 | rest (s m d:Nat) (g:Goroutine) (w:World) (hs:s<=6) (h:ConcN.WSit Z.P Z.ty Z.Wg Z.e0 Z.n JI JI 0 1 Z.v0 s m d g w) (hr:Z.kG i bx O w):WS i bx O s (zV m) d g w
structure R0(x:Option Nat)(w w₁:World):Prop where
 size:w.heap.size<=w₁.heap.size
 iP:∀b,Z.lN b->w₁.heap[b]?=w.heap[b]?
 cur:∀b,x=some b->w₁.heap[b]?=w.heap[b]?
 live:WgLive Z.ty Z.Wg w->WgLive Z.ty Z.Wg w₁
 xP:∀b,Z.wS b->w₁.heap[b]?=w.heap[b]?
theorem R0.refl(x:Option Nat)(w:World):R0 Z x w w:=⟨aj _,λ_ _=>rfl,λ_ _=>rfl,id,λ_ _=>rfl⟩
theorem R0.trans{x:Option Nat}{a b d:World}(h:R0 Z x a b)(k:R0 Z x b d):R0 Z x a d:=
 ⟨ay h.size k.size,λx y=>(k.iP x y).trans (h.iP x y),λx y=>(k.cur x y).trans (h.cur x y),k.live∘h.live,λx y=>(k.xP x y).trans (h.xP x y)⟩
def Ev0(x:Option Nat)(B:Nat)(e:Event):Prop:=
 match e.loc with
 | .cell a=>a.block<B/\e.sync=false/\((Z.lN a.block/\e.write=false)\/x=some a.block)
 | .obj r=>r<B/\e.sync=false/\Z.lN r/\e.write=false
 | .mark m=>Bi.fU m\/∃a,(m=.read a\/m=.write a)/\a.block=Z.Wg
 | _=>False
structure D0(x x':Option Nat)(w w':World)(es:Array Event):Prop where
 size:w.heap.size<=w'.heap.size
 tape:w'.tape=w.tape
 os:w'.os=w.os
 output:w'.output=w.output
 old:∀b,b<w.heap.size->x≠some b->w'.heap[b]?=w.heap[b]?
 cur:x'=x\/x'=none\/∃b,x'=some b/\w.heap.size<=b/\b<w'.heap.size
 ev:∀e∈es,Ev0 Z x' w'.heap.size e
abbrev W0(Stop:Option Nat->Goroutine->World->Prop):Tr->Option Nat->Goroutine->World->Prop:=Wk Z.P true (R0 Z) (D0 Z) Stop
section
variable(Cont:Goroutine->World->Prop)
def AtAcq(_x:Option Nat)(g:Goroutine)(w:World):Prop:=
 g.status=.running/\∃g',stepG Z.P true g w=.go g' w #[mk (.acquire (stA Z.Wg))]/\g'.status=.running/\Cont g' w
def AtKe(x:Option Nat)(g:Goroutine)(w:World):Prop:=
 g.status=.running/\∃g',stepG Z.P true g w=.go g' w #[mk .enable]/\∃T,W0 Z (AtAcq Z Cont) T x g' w
def AtW4(x:Option Nat)(g:Goroutine)(w:World):Prop:=
 g.status=.running/\(WgAt Z.ty Z.Wg w 0 0->∃g',stepG Z.P true g w=.go g' w #[rd (stA Z.Wg)]/\∃T,W0 Z (AtKe Z Cont) T x g' w)
def AtW3(x:Option Nat)(g:Goroutine)(w:World):Prop:=
 g.status=.running/\g.offers=none/\((∃st,WgAt Z.ty Z.Wg w st 0)->stepG Z.P true g w=.go {g with status:=.blocked} w #[])/\
  (WgAt Z.ty Z.Wg w 0 1->∃g',stepG Z.P true g w=.go g' (w.setCell (smA Z.Wg) (.int .u32 0)) (semEvents (smA Z.Wg))/\∃T,W0 Z (AtW4 Z Cont) T x g' (w.setCell (smA Z.Wg) (.int .u32 0)))
variable(AnchW:Goroutine->World->Prop)
def AtW2(vs:Nat)(x:Option Nat)(g:Goroutine)(w:World):Prop:=
 g.status=.running/\∀v:Nat,v<2147483648->WgAt Z.ty Z.Wg w (v*KK) 0->
  (v=vs->∃g',stepG Z.P true g w=.go g' (w.setCell (stA Z.Wg) (.int .u64 (v*KK+1))) #[rd (stA Z.Wg),wr (stA Z.Wg)]/\∃T,W0 Z (AtW3 Z Cont) T x g' (w.setCell (stA Z.Wg) (.int .u64 (v*KK+1))))/\
  (v≠vs->∃g',stepG Z.P true g w=.go g' w #[rd (stA Z.Wg)]/\∃T,W0 Z (λ_=>AnchW) T x g' w)
def AtW1(x:Option Nat)(g:Goroutine)(w:World):Prop:=
 g.status=.running/\∀v:Nat,v<2147483648->WgAt Z.ty Z.Wg w (v*KK) 0->∃g',stepG Z.P true g w=.go g' w #[rd (stA Z.Wg)]/\
  (v=0->∃T,W0 Z (AtKe Z Cont) T x g' w)/\(v≠0->∃T,W0 Z (AtW2 Z Cont AnchW v) T x g' w)
def AtKd(x:Option Nat)(g:Goroutine)(w:World):Prop:=
 g.status=.running/\∃g',stepG Z.P true g w=.go g' w #[mk .disable]/\∃T,W0 Z (λ_=>AnchW) T x g' w
end
section
variable(j:Nat)(Next:Option Nat->Goroutine->World->Prop)
def AtGoS(x:Option Nat)(g:Goroutine)(w:World):Prop:=
 g.status=.running/\∃b g' child,x=some b/\stepG Z.P true g w=.spawn g' child w #[]/\child.status=.running/\(kY Z w->kS Z w->WgLive Z.ty Z.Wg w->Works Z j b child w)/\Next none g' w
def AtKeS(x:Option Nat)(g:Goroutine)(w:World):Prop:=
 g.status=.running/\∃g',stepG Z.P true g w=.go g' w #[mk .enable]/\∃T,W0 Z (AtGoS Z j Next) T x g' w
def AtA1(x:Option Nat)(g:Goroutine)(w:World):Prop:=
 g.status=.running/\∀v:Nat,v<2147483647->WgAt Z.ty Z.Wg w (v*KK) 0->
  ∃g',stepG Z.P true g w=.go g' (w.setCell (stA Z.Wg) (.int .u64 ((v+1)*KK))) #[rd (stA Z.Wg),wr (stA Z.Wg)]/\∃T,W0 Z (AtKeS Z j Next) T x g' (w.setCell (stA Z.Wg) (.int .u64 ((v+1)*KK)))
def AtKdS(x:Option Nat)(g:Goroutine)(w:World):Prop:=
 g.status=.running/\∃g',stepG Z.P true g w=.go g' w #[mk .disable]/\∃T,W0 Z (AtA1 Z j Next) T x g' w
end
def Spawns(Fin:Option Nat->Goroutine->World->Prop):Nat->Option Nat->Goroutine->World->Prop
 | 0,x,g,w=>Fin x g w
 | r+1,x,g,w=>∃T,W0 Z (AtKdS Z (Z.n - (r+1)) (Spawns Fin r)) T x g w
end
end
section
open Go.Conc
open Go.ConcR (KK wgBlock WgAt stA smA rd wr mk DC0 Bk g_of_ofEvents)
open Go.ConcN (WgLive ShN WD CTag sumTo upd upd_same upd_ne cnt Vc Ssum pend isOpen isW3 isFin Mode)
variable(Z:Pz)
def u_:Loc->Prop
 | .cell a=>a.block=Z.Wg\/a.block=Z.Al
 | _=>False
def Shun:Loc->Prop
 | .cell a=>Z.wS a.block
 | .obj r=>Z.wS r
 | _=>False
def wC(l:Loc):Prop:=Shun Z l\/l.isMemory=false
def yY(O:Nat->Nat->Prop)(i:Nat):Loc->Prop
 | .cell a=>O i a.block\/(a.block=Z.Cb/\a.spot=none/\iT i a.off)
 | .obj r=>O i r
 | _=>False
def vg(bx:Nat->Nat)(i:Nat):Loc->Prop
 | .cell a=>Z.lN a.block\/a.block=bx i
 | .obj r=>Z.lN r\/r=bx i
 | _=>False
structure Geo(j:Nat)(w:World)(O:Nat->Nat->Prop)(bx:Nat->Nat)(x:Option Nat):Prop where
 size:Z.L0<=w.heap.size
 lt:∀i b,O i b->Z.L0<=b/\b<w.heap.size
 dj:∀i k b,O i b->O k b->i=k
 out:∀i b,j<=i->¬O i b
 nb:∀i k b,O i b->b≠bx k
 cur:∀i b,O i b->x≠some b
 wZ:∀k,Z.lN (bx k)\/(k<j/\Z.L0<=bx k/\bx k<w.heap.size)
 xl:∀b,x=some b->Z.L0<=b/\b<w.heap.size/\∀k,bx k≠b
variable{Z}
theorem Geo.apart(hZ:jY Z){j:Nat}{w:World}{O:Nat->Nat->Prop}{bx:Nat->Nat}{x:Option Nat}(h:Geo Z j w O bx x):Apart (u_ Z) (wC Z) (yY Z O) (vg Z bx):=by
 have e0:=λb hb=>hZ.iP b hb;have hO:∀i b,O i b->¬Z.lN b/\b≠Z.Wg/\b≠Z.Al/\b≠Z.Cb/\¬Z.wS b:=λi b hb=>by
  have h1:=(h.lt i b hb).1;refine⟨λhe=>?_,?_,?_,?_,λhs=>?_⟩
  ·have:=(e0 b he).1;omega
  ·have:=hZ.W0;omega
  ·have:=hZ.A0;omega
  ·have:=hZ.C0;omega
  ·have:=(hZ.sh b hs).1;omega
 have hB:∀k,bx k≠Z.Wg/\bx k≠Z.Al/\bx k≠Z.Cb/\¬Z.wS (bx k):=λk=>by
  rcases h.wZ k with he|⟨_,h1,_⟩
  ·obtain⟨_,a,b,c,d⟩:=e0 _ he;exact⟨a,b,c,d⟩
  ·refine⟨?_,?_,?_,λhs=>?_⟩
   ·have:=hZ.W0;omega
   ·have:=hZ.A0;omega
   ·have:=hZ.C0;omega
   ·have:=(hZ.sh _ hs).1;omega
 refine⟨λi k l hi hk=>?_,λi k l hi hk=>?_,λi l hi hs=>?_,λi l hi hs=>?_,λi l hi hs=>?_,λi l hi hs=>?_,λl hl hs=>?_⟩
 ·cases l with
  | cell a=>
   rcases hi with hi|⟨h1,-,h2⟩<;>rcases hk with hk|⟨k1,-,k2⟩
   ·exact h.dj i k _ hi hk
   ·exact absurd k1 (hO i _ hi).2.2.2.1
   ·exact absurd h1 (hO k _ hk).2.2.2.1
   ·unfold iT at h2 k2;omega
  | obj r=>exact h.dj i k r hi hk
  | _=>exact hi.elim
 ·cases l with
  | cell a=>
   rcases hi with hi|⟨h1,-,h2⟩
   ·rcases hk with hk|hk
    ·exact(hO i _ hi).1 hk
    ·exact h.nb i k _ hi hk
   ·rcases hk with hk|hk
    ·exact(e0 _ hk).2.2.2.1 h1
    ·exact(hB k).2.2.1 (hk.symm.trans h1)
  | obj r=>
   rcases hk with hk|hk
   ·exact(hO i _ hi).1 hk
   ·exact h.nb i k _ hi hk
  | _=>exact hi.elim
 ·cases l with
  | cell a=>
   rcases hi with hi|⟨h1,-,-⟩
   ·rcases hs with hs|hs
    ·exact(hO i _ hi).2.1 hs
    ·exact(hO i _ hi).2.2.1 hs
   ·rcases hs with hs|hs
    ·exact hZ.WC (hs.symm.trans h1)
    ·exact hZ.AC (hs.symm.trans h1)
  | _=>exact hs.elim
 ·cases l with
  | cell a=>
   rcases hi with hi|hi<;>rcases hs with hs|hs
   ·exact(e0 _ hi).2.1 hs
   ·exact(e0 _ hi).2.2.1 hs
   ·exact(hB i).1 (hi.symm.trans hs)
   ·exact(hB i).2.1 (hi.symm.trans hs)
  | _=>exact hs.elim
 ·rcases hs with hs|hs
  ·cases l with
   | cell a=>
    rcases hi with hi|⟨h1,-,-⟩
    ·exact(hO i _ hi).2.2.2.2 hs
    ·exact(hZ.sh _ hs).2.2.2 h1
   | obj r=>exact(hO i _ hi).2.2.2.2 hs
   | _=>exact hi.elim
  ·cases l<;>first|exact(hi:False).elim|cases hs
 ·rcases hs with hs|hs
  ·cases l with
   | cell a=>
    rcases hi with hi|hi
    ·exact(e0 _ hi).2.2.2.2 hs
    ·exact(hB i).2.2.2 (hi▸hs)
   | obj r=>
    rcases hi with hi|hi
    ·exact(e0 _ hi).2.2.2.2 hs
    ·exact(hB i).2.2.2 (hi▸hs)
   | _=>exact hi.elim
  ·cases l<;>first|exact(hi:False).elim|cases hs
 ·cases l with
  | cell a=>
   rcases hs with hs|hs
   ·rcases hl with hl|hl
    ·exact(hZ.sh _ hs).2.1 hl
    ·exact(hZ.sh _ hs).2.2.1 hl
   ·cases hs
  | _=>exact hl.elim
section
variable[Go.ConcR.Payload]{i Ed:Nat}{O:Nat->Prop}{w w₁:World}
theorem xR(hZ:jY Z)(h:RW Z i Ed O w w₁):ConcN.RW Z.ty Z.Wg Z.e0 Z.n 0 (1 - 1) w w₁:=by
 have e:=h.iP _ hZ.e0;exact⟨λb hb=>absurd hb (by omega),h.live,λ⟨cs,h1,h2⟩=>⟨cs,e.trans h1,h2⟩,ConcN.cell_of_block e _⟩
theorem WS.rely(hZ:jY Z){s d:Nat}{T:Tr}{g:Goroutine}(h:WS Z i Ed O s T d g w)(hr:RW Z i Ed O w w₁):WS Z i Ed O s T d g w₁:=by
 cases h with
 | work T g w h=>exact .work T g w₁ (Wk.rely (R:=RW Z i Ed) (λy a b c h k=>RW.trans Z h k) h hr)
 | rest s m d g w hs h hR=>exact .rest s m d g w₁ hs (h.rely (xR hZ hr)) (hZ.res _ _ _ _ _ hr.size hr.box hr.own hr.cell hR)
theorem WS.status{s d:Nat}{T:Tr}{g:Goroutine}(h:WS Z i Ed O s T d g w):g.status=.running\/g.status=.finished:=by
 cases h with
 | work T g w h=>exact .inl (Wk.running (λ_ _ _ x=>x.1.1) (RW.refl Z _ _ _ w) h)
 | rest s m d g w hs h hR=>exact h.status
theorem WS.woken{s d:Nat}{T:Tr}{g:Goroutine}(h:WS Z i Ed O s T d g w)(a a':Goroutine)(w':World):Go.Conc.woken Z.P a a' w' g=g:=by
 unfold Go.Conc.woken;split
 ·exact again_running _ h.status
 ·rfl
theorem WS.running_of{s d:Nat}{T:Tr}{g:Goroutine}(h:WS Z i Ed O s T d g w)(hs:s≠1):g.status=.running:=by
 cases h with
 | work T g w h=>exact Wk.running (λ_ _ _ x=>x.1.1) (RW.refl Z _ _ _ w) h
 | rest s m d g w _ h hR=>exact h.running_of hs
end
section
variable[Go.ConcR.Payload](Z)(Cont AnchW:Goroutine->World->Prop)
def Fin(x:Option Nat)(g:Goroutine)(w:World):Prop:=x=none/\∃T,W0 Z (AtKd Z AnchW) T x g w
inductive CS:CTag->Nat->Tr->Nat->Option Nat->Goroutine->World->Prop
 | skd {r:Nat} {T:Tr} {x:Option Nat} {g:Goroutine} {w:World}:r<Z.n->W0 Z (AtKdS Z (Z.n - (r+1)) (Spawns Z (Fin Z AnchW) r)) T x g w->CS (.sp r 5) (Z.n - (r+1)) T 0 x g w
 | sa1 {r:Nat} {T:Tr} {x:Option Nat} {g:Goroutine} {w:World}:r<Z.n->W0 Z (AtA1 Z (Z.n - (r+1)) (Spawns Z (Fin Z AnchW) r)) T x g w->CS (.sp r 4) (Z.n - (r+1)) T 1 x g w
 | ske {r:Nat} {T:Tr} {x:Option Nat} {g:Goroutine} {w:World}:r<Z.n->W0 Z (AtKeS Z (Z.n - (r+1)) (Spawns Z (Fin Z AnchW) r)) T x g w->CS (.sp r 3) (Z.n - (r+1)) T 1 x g w
 | sgo {r:Nat} {T:Tr} {x:Option Nat} {g:Goroutine} {w:World}:r<Z.n->W0 Z (AtGoS Z (Z.n - (r+1)) (Spawns Z (Fin Z AnchW) r)) T x g w->CS (.sp r 2) (Z.n - (r+1)) T 0 x g w
 | kd {T:Tr} {x:Option Nat} {g:Goroutine} {w:World}:W0 Z (AtKd Z AnchW) T x g w->CS .kd Z.n T 0 x g w
 | anch {T:Tr} {x:Option Nat} {g:Goroutine} {w:World}:W0 Z (λ_=>AnchW) T x g w->CS .anch Z.n T 1 x g w
 | w1 {T:Tr} {x:Option Nat} {g:Goroutine} {w:World}:W0 Z (AtW1 Z Cont AnchW) T x g w->CS .w1 Z.n T 1 x g w
 | w2 {vs:Nat} {T:Tr} {x:Option Nat} {g:Goroutine} {w:World}:W0 Z (AtW2 Z Cont AnchW vs) T x g w->CS (.w2 vs) Z.n T 1 x g w
 | w3 {T:Tr} {x:Option Nat} {g:Goroutine} {w:World}:W0 Z (AtW3 Z Cont) T x g w->CS .w3 Z.n T 1 x g w
 | blk {T:Tr} {x:Option Nat} {g:Goroutine} {w:World}:(∀w₁,R0 Z x w w₁->AtW3 Z Cont x g w₁)->CS .blk Z.n T 1 x {g with status:=.blocked} w
 | w4 {T:Tr} {x:Option Nat} {g:Goroutine} {w:World}:W0 Z (AtW4 Z Cont) T x g w->CS .w4 Z.n T 1 x g w
 | ke {T:Tr} {x:Option Nat} {g:Goroutine} {w:World}:W0 Z (AtKe Z Cont) T x g w->CS .ke Z.n T 1 x g w
 | acq {T:Tr} {x:Option Nat} {g:Goroutine} {w:World}:W0 Z (AtAcq Z Cont) T x g w->CS .acq Z.n T 0 x g w
end
section
variable[Go.ConcR.Payload]{Cont AnchW:Goroutine->World->Prop}{tag:CTag}{j d:Nat}{T:Tr}{x:Option Nat}{a:Goroutine}{w w':World}
theorem CS.rely(h:CS Z Cont AnchW tag j T d x a w)(hr:R0 Z x w w'):CS Z Cont AnchW tag j T d x a w':=by
 have tr:∀y p q r,R0 Z y p q->R0 Z y q r->R0 Z y p r:=λ_ _ _ _ h1 h2=>R0.trans Z h1 h2
 cases h with
 | skd hn h=>exact .skd hn (Wk.rely tr h hr)
 | sa1 hn h=>exact .sa1 hn (Wk.rely tr h hr)
 | ske hn h=>exact .ske hn (Wk.rely tr h hr)
 | sgo hn h=>exact .sgo hn (Wk.rely tr h hr)
 | kd h=>exact .kd (Wk.rely tr h hr)
 | anch h=>exact .anch (Wk.rely tr h hr)
 | w1 h=>exact .w1 (Wk.rely tr h hr)
 | w2 h=>exact .w2 (Wk.rely tr h hr)
 | w3 h=>exact .w3 (Wk.rely tr h hr)
 | blk h=>exact .blk λw₂ h₂=>h w₂ (tr _ _ _ _ hr h₂)
 | w4 h=>exact .w4 (Wk.rely tr h hr)
 | ke h=>exact .ke (Wk.rely tr h hr)
 | acq h=>exact .acq (Wk.rely tr h hr)
theorem CS.status(hAr:∀g w,AnchW g w->g.status=.running)(h:CS Z Cont AnchW tag j T d x a w):(a.status=.running/\tag≠.blk)\/(a.status=.blocked/\tag=.blk):=by
 cases h with
 | skd _ h=>exact .inl ⟨Wk.running (λ_ _ _ x=>x.1) (R0.refl Z _ w) h,by simp⟩
 | sa1 _ h=>exact .inl ⟨Wk.running (λ_ _ _ x=>x.1) (R0.refl Z _ w) h,by simp⟩
 | ske _ h=>exact .inl ⟨Wk.running (λ_ _ _ x=>x.1) (R0.refl Z _ w) h,by simp⟩
 | sgo _ h=>exact .inl ⟨Wk.running (λ_ _ _ x=>x.1) (R0.refl Z _ w) h,by simp⟩
 | kd h=>exact .inl ⟨Wk.running (λ_ _ _ x=>x.1) (R0.refl Z _ w) h,by simp⟩
 | anch h=>exact .inl ⟨Wk.running (λ_ g w x=>hAr g w x) (R0.refl Z _ w) h,by simp⟩
 | w1 h=>exact .inl ⟨Wk.running (λ_ _ _ x=>x.1) (R0.refl Z _ w) h,by simp⟩
 | w2 h=>exact .inl ⟨Wk.running (λ_ _ _ x=>x.1) (R0.refl Z _ w) h,by simp⟩
 | w3 h=>exact .inl ⟨Wk.running (λ_ _ _ x=>x.1) (R0.refl Z _ w) h,by simp⟩
 | blk h=>exact .inr ⟨rfl,rfl⟩
 | w4 h=>exact .inl ⟨Wk.running (λ_ _ _ x=>x.1) (R0.refl Z _ w) h,by simp⟩
 | ke h=>exact .inl ⟨Wk.running (λ_ _ _ x=>x.1) (R0.refl Z _ w) h,by simp⟩
 | acq h=>exact .inl ⟨Wk.running (λ_ _ _ x=>x.1) (R0.refl Z _ w) h,by simp⟩
theorem CS.wokenBy(hAr:∀g w,AnchW g w->g.status=.running)(h:CS Z Cont AnchW tag j T d x a w)(hr:R0 Z x w w')(g g':Goroutine):
 ∃tag' T',CS Z Cont AnchW tag' j T' d x (woken Z.P g g' w' a) w'/\(tag'=tag\/(tag=.blk/\tag'=.w3))/\(mayWake Z.P g=true->g'.status=.running->tag'≠.blk):=by
 have h':=h.rely hr;unfold Go.Conc.woken;split
 ·rcases h'.status hAr with⟨hs,hne⟩|⟨_,rfl⟩
  ·exact⟨tag,T,by rw[again_running _ (.inl hs)];exact h',.inl rfl,λ_ _=>hne⟩
  ·cases h' with
   | blk hb=>
    rename_i g0;have h3:=hb w' (R0.refl Z x w');exact⟨.w3,.leaf,by rw[Go.ConcR.again_blocked h3.1 h3.2.1];exact .w3 (Wk.stop hb),.inr ⟨rfl,rfl⟩,λ_ _=>by simp⟩
 ·rename_i hc;exact⟨tag,T,h',.inl rfl,λh1 h2=>absurd (by simp[h1,h2]) hc⟩
end
end
section
open Go.Conc
open Go.ConcR (KK wgBlock WgAt stA smA rd wr mk DC0 Bk g_of_ofEvents)
open Go.ConcN (WgLive ShN WD CTag sumTo upd upd_same upd_ne cnt Vc Ssum pend isOpen isW3 isFin Mode)
variable{Z:Pz}{j:Nat}{w w':World}{O:Nat->Nat->Prop}{bx:Nat->Nat}{x x':Option Nat}{es:Array Event}{i:Nat}
theorem QE{ty:TypeId}{Wg:Nat}{w w':World}(e:w'.heap[Wg]?=w.heap[Wg]?)(h:WgLive ty Wg w):WgLive ty Wg w':=by
 obtain⟨st,sm,h⟩:=h;exact⟨st,sm,h.of_block e⟩
theorem kY.of(e:w'.heap[Z.Al]?=w.heap[Z.Al]?)(h:kY Z w):kY Z w':=by
 obtain⟨v,h⟩:=h;exact⟨v,e.trans h⟩
theorem kS.of(e:w'.heap[Z.Cb]?=w.heap[Z.Cb]?)(h:kS Z w):kS Z w':=by
 obtain⟨cs,h1,h2⟩:=h;exact⟨cs,e.trans h1,h2⟩
theorem b77{i k n:Nat}(h:iT i n)(hne:i≠k):¬iT k n:=by unfold iT at *;omega
section
variable{O':Nat->Prop}(hZ:jY Z)(hg:Geo Z j w O bx x)(h:DW Z i (bx i) (O i) O' w w' es)
include hZ hg h
theorem Ko{b:Nat}(hb:b<Z.L0)(h1:b≠Z.Al)(h2:b≠Z.Cb):w'.heap[b]?=w.heap[b]?:=
 h.old b (by have:=hg.size;omega) (λho=>by have:=(hg.lt i b ho).1;omega) h1 h2
theorem ZG{b:Nat}(hb:Z.L0<=b)(hs:b<w.heap.size)(hn:¬O i b):w'.heap[b]?=w.heap[b]?:=
 h.old b hs hn (by have:=hZ.A0;omega) (by have:=hZ.C0;omega)
theorem b78{k:Nat}(hk:k≠i):RW Z k (bx k) (O k) w w':=by
 have el:∀b,Z.lN b->w'.heap[b]?=w.heap[b]?:=λb hb=>by
  obtain⟨h1,h2,h3,h4,h5⟩:=hZ.iP b hb;exact Ko hZ hg h h1 h3 h4
 refine⟨h.size,el,?_,λb hb=>?_,λhl=>QE (Ko hZ hg h hZ.W0 hZ.WA hZ.WC) hl,h.al,h.cb,λn hn=>h.cell n (b77 hn hk)⟩
 ·rcases hg.wZ k with he|⟨_,h1,h2⟩
  ·exact el _ he
  ·exact ZG hZ hg h h1 h2 λho=>hg.nb i k _ ho rfl
 ·obtain⟨h1,h2⟩:=hg.lt k b hb;exact ZG hZ hg h h1 h2 λho=>hk (hg.dj k i b hb ho)
theorem b45:R0 Z x w w':=by
 refine⟨h.size,λb hb=>?_,λb hb=>?_,λhl=>QE (Ko hZ hg h hZ.W0 hZ.WA hZ.WC) hl,λb hb=>?_⟩
 ·obtain⟨h1,h2,h3,h4,h5⟩:=hZ.iP b hb;exact Ko hZ hg h h1 h3 h4
 ·obtain⟨h1,h2,_⟩:=hg.xl b hb;exact ZG hZ hg h h1 h2 λho=>hg.cur i b ho hb
 ·obtain⟨h1,h2,h3,h4⟩:=hZ.sh b hb;exact Ko hZ hg h h1 h3 h4
theorem uE(hij:i<j):Geo Z j w' (upd O i O') bx x:=by
 have key:∀k b,upd O i O' k b->O k b\/(k=i/\O' b/\w.heap.size<=b):=λk b hb=>by
  by_cases e:k=i
  ·subst e;rw[upd_same] at hb;exact(h.new b hb).imp id λy=>⟨rfl,hb,y⟩
  ·rw[upd_ne O _ e] at hb;exact .inl hb
 have hsz:=h.size;refine⟨ay hg.size h.size,λk b hb=>?_,λk m b hk hm=>?_,λk b hk hb=>?_,λk m b hb=>?_,λk b hb=>?_,λk=>(hg.wZ k).imp id λy=>⟨y.1,y.2.1,by omega⟩,λb hb=>⟨(hg.xl b hb).1,by have:=(hg.xl b hb).2.1;omega,(hg.xl b hb).2.2⟩⟩
 ·rcases key k b hb with h1|⟨_,h2,h3⟩
  ·have:=hg.lt k b h1;omega
  ·have:=h.MR b h2;have:=hg.size;omega
 ·rcases key k b hk with h1|⟨h1,h2,h3⟩<;>rcases key m b hm with k1|⟨k1,k2,k3⟩
  ·exact hg.dj k m b h1 k1
  ·have:=(hg.lt k b h1).2;omega
  ·have:=(hg.lt m b k1).2;omega
  ·rw[h1,k1]
 ·rcases key k b hb with h1|⟨h1,_,_⟩
  ·exact hg.out k b hk h1
  ·omega
 ·rcases key k b hb with h1|⟨_,_,h3⟩
  ·exact hg.nb k m b h1
  ·intro e;rcases hg.wZ m with he|⟨_,_,h4⟩
   ·have:=(hZ.iP _ he).1;have:=hg.size;omega
   ·omega
 ·rcases key k b hb with h1|⟨_,_,h3⟩
  ·exact hg.cur k b h1
  ·intro e;have:=(hg.xl b e).2.1;omega
theorem vy(hij:i<j){t:Trace}(ct:CT Z.c (u_ Z) (wC Z) (yY Z O) (vg Z bx) t j)(low:∀op∈t,op.act.low w.heap.size)(fn:FuncId)(pos:String):
 CT Z.c (u_ Z) (wC Z) (yY Z (upd O i O')) (vg Z bx) (t++MemOp.ofEvents (Z.c+i) fn pos es) j:=by
 have ap:=(uE hZ hg h hij).apart hZ;refine CT.appW ap (ct.grow (λk l hl=>?_) λk l hl=>?_) hij λop hop=>?_
 ·by_cases e:k=i
  ·subst e
   cases l with
   | cell a=>exact hl.imp (λy=>by rw[upd_same];exact h.more _ y) id
   | obj r=>show upd O k O' k r;rw[upd_same];exact h.more r hl
   | _=>exact hl
  ·cases l with
   | cell a=>exact hl.imp (λy=>by rw[upd_ne O _ e];exact y) id
   | obj r=>show upd O i O' k r;rw[upd_ne O _ e];exact hl
   | _=>exact hl
 ·by_cases e:k=i
  ·subst e;have k_:∀{b:Nat}{l:Loc},w.heap.size<=b->(∀n,l.low n->b<n)->∀m a,touchAt t m=some a->a.loc≠l:=λ{b l}hb hl m a ha e=>by
    obtain⟨y,hy,hya⟩:=touch_of ha;have:=hl _ (e▸HJ (low y (Array.mem_of_getElem? hy)) hya);omega
   cases l with
   | cell a=>
    rcases hl with hl|hl
    ·rw[upd_same] at hl;rcases h.new _ hl with h1|h1
     ·exact .inl (.inl h1)
     ·exact .inr (k_ h1 λn hn=>hn)
    ·exact .inl (.inr hl)
   | obj r=>
    have hl':O' r:=by have:upd O k O' k r:=hl;rwa [upd_same] at this
    rcases h.new _ hl' with h1|h1
    ·exact .inl h1
    ·exact .inr (k_ h1 λn hn=>hn)
   | _=>exact .inl hl
  ·left
   cases l with
   | cell a=>exact hl.imp (λy=>by rwa [upd_ne O _ e] at y) id
   | obj r=>have:upd O i O' k r:=hl;rwa [upd_ne O _ e] at this
   | _=>exact hl
 ·obtain⟨e,he,rfl⟩:=Go.Conc.mem_ofEvents hop;refine⟨rfl,λy hy=>?_⟩;have hev:=h.ev e he;obtain⟨loc,wr,sy⟩:=e;unfold EvW at hev
  cases loc with
  | cell a=>
   rw[show MemAct.ofEvent ⟨.cell a,wr,sy⟩=.access ⟨.cell a,wr,sy⟩ from rfl] at hy;simp only[MemAct.touch?,bJ] at hy;subst hy;obtain⟨_,⟨h1,h2⟩|⟨h1,h2|h2|⟨h2,h3⟩⟩⟩:=hev
   ·dsimp only at h2;subst h2;exact .inl ⟨.inr h1,by simp,by simp⟩
   ·exact .inr (.inl (.inl (by rw[upd_same];exact h2)))
   ·exact .inr (.inl (.inr h2))
   ·exact .inr (.inr ⟨h2,h3⟩)
  | obj r=>
   dsimp only at hev;obtain⟨_,h1,h2⟩:=hev;subst h1;have hy':y=⟨.obj r,wr,.plain⟩:=by
    cases wr<;>(simp only[MemAct.ofEvent,MemAct.touch?,bJ] at hy;exact hy.symm)
   subst hy';rcases h2 with h2|h2
   ·exact .inr (.inl (by show upd O i O' i r;rw[upd_same];exact h2))
   ·exact .inr (.inr h2)
  | mark m=>
   cases m<;>first|exact(hev:False).elim|(simp only[MemAct.ofEvent,MemAct.touch?] at hy;cases hy)
  | _=>exact(hev:False).elim
end
section
variable(hZ:jY Z)(hg:Geo Z j w O bx x)(h:Conc.Aside Z.Wg w w')(hl:WgLive Z.ty Z.Wg w')
include hZ hg h hl
theorem bA(k:Nat):RW Z k (bx k) (O k) w w':=by
 have nW:∀b,Z.L0<=b->b≠Z.Wg:=λb hb=>by have:=hZ.W0;omega
 refine⟨dS h.size.symm,λb hb=>h.block b (hZ.iP b hb).2.1,h.block _ ?_,λb hb=>h.block b (nW b (hg.lt k b hb).1),λ_=>hl,kY.of (h.block _ (bP hZ.WA)),kS.of (h.block _ (bP hZ.WC)),λn _=>ConcN.cell_of_block (h.block _ (bP hZ.WC)) n⟩;rcases hg.wZ k with he|⟨_,h1,_⟩
 ·exact(hZ.iP _ he).2.1
 ·exact nW _ h1
theorem ME:R0 Z x w w':=by
 refine⟨dS h.size.symm,λb hb=>h.block b (hZ.iP b hb).2.1,λb hb=>h.block b ?_,λ_=>hl,λb hb=>h.block b (hZ.sh b hb).2.1⟩;have:=(hg.xl b hb).1;have:=hZ.W0;omega
theorem ux:Geo Z j w' O bx x:=by
 have e:=h.size;exact⟨by rw[e];exact hg.size,λi b hb=>by rw[e];exact hg.lt i b hb,hg.dj,hg.out,hg.nb,hg.cur,λk=>by rw[e];exact hg.wZ k,λb hb=>by rw[e];exact hg.xl b hb⟩
end
theorem Eq{g:Nat}{fn:FuncId}{pos:String}(hes:∀e∈es,Bk Z.Wg e){Own Rd:Nat->Loc->Prop}(hg:g=Z.c+i):∀op∈MemOp.ofEvents g fn pos es,OkW Z.c (u_ Z) Own Rd i op:=by
 intro op hop;obtain⟨e,he,rfl⟩:=Go.Conc.mem_ofEvents hop;refine⟨hg,λy hy=>?_⟩;rcases hes e he with h1|h1|⟨a,wr,rfl,hb⟩
 ·rw[Go.ConcR.ofEvent_loc_mark h1] at hy;cases hy
 ·rw[Go.ConcR.ofEvent_loc_mark h1] at hy;cases hy
 ·rw[Go.ConcR.ofEvent_cell] at hy;simp only[MemAct.touch?,bJ] at hy;subst hy;exact .inl ⟨.inl hb,by simp,by simp⟩
theorem Eg{fn:FuncId}{pos:String}(hes:∀e∈es,Bk Z.Wg e){Own Rd:Nat->Loc->Prop}:∀op∈MemOp.ofEvents 0 fn pos es,Ok0 (u_ Z) (wC Z) Own Rd j op:=by
 intro op hop;obtain⟨e,he,rfl⟩:=Go.Conc.mem_ofEvents hop;refine⟨rfl,λy hy=>?_⟩;rcases hes e he with h1|h1|⟨a,wr,rfl,hb⟩
 ·rw[Go.ConcR.ofEvent_loc_mark h1] at hy;cases hy
 ·rw[Go.ConcR.ofEvent_loc_mark h1] at hy;cases hy
 ·rw[Go.ConcR.ofEvent_cell] at hy;simp only[MemAct.touch?,bJ] at hy;subst hy;exact .inl ⟨.inl hb,by simp⟩
section
variable(hZ:jY Z)(hg:Geo Z j w O bx x)(h:D0 Z x x' w w' es)
include hZ hg h
theorem CV{b:Nat}(hb:b<Z.L0):w'.heap[b]?=w.heap[b]?:=
 h.old b (by have:=hg.size;omega) λe=>by have:=(hg.xl b e).1;omega
theorem b46(k:Nat):RW Z k (bx k) (O k) w w':=by
 have el:∀b,Z.lN b->w'.heap[b]?=w.heap[b]?:=λb hb=>CV hZ hg h (hZ.iP b hb).1;refine⟨h.size,el,?_,λb hb=>h.old b (hg.lt k b hb).2 (hg.cur k b hb),QE (CV hZ hg h hZ.W0),kY.of (CV hZ hg h hZ.A0),kS.of (CV hZ hg h hZ.C0),λn _=>ConcN.cell_of_block (CV hZ hg h hZ.C0) n⟩;rcases hg.wZ k with he|⟨_,h1,h2⟩
 ·exact el _ he
 ·exact h.old _ h2 λe=>(hg.xl _ e).2.2 k rfl
theorem ud:Geo Z j w' O bx x':=by
 have hsz:=h.size;have hbx:∀k,bx k<w.heap.size:=λk=>by
  rcases hg.wZ k with he|⟨_,_,h2⟩
  ·have:=(hZ.iP _ he).1;have:=hg.size;omega
  ·exact h2
 refine⟨ay hg.size h.size,λk b hb=>⟨(hg.lt k b hb).1,by have:=(hg.lt k b hb).2;omega⟩,hg.dj,hg.out,hg.nb,λk b hb=>?_,λk=>(hg.wZ k).imp id λy=>⟨y.1,y.2.1,by omega⟩,λb hb=>?_⟩
 ·rcases h.cur with e|e|⟨n,e,h1,h2⟩
  ·rw[e];exact hg.cur k b hb
  ·rw[e];simp
  ·rw[e];intro e';have:=(hg.lt k b hb).2;injection e' with e';omega
 ·rcases h.cur with e|e|⟨n,e,h1,h2⟩
  ·rw[e] at hb;exact⟨(hg.xl b hb).1,by have:=(hg.xl b hb).2.1;omega,(hg.xl b hb).2.2⟩
  ·rw[e] at hb;cases hb
  ·rw[e] at hb;injection hb with hb;subst hb;exact⟨ay hg.size h1,h2,λk e'=>by have:=hbx k;omega⟩
theorem vx{fn:FuncId}{pos:String}:∀op∈MemOp.ofEvents 0 fn pos es,Ok0 (u_ Z) (wC Z) (yY Z O) (vg Z bx) j op:=by
 have hg':=ud hZ hg h;intro op hop;obtain⟨e,he,rfl⟩:=Go.Conc.mem_ofEvents hop;refine⟨rfl,λy hy=>?_⟩;have hev:=h.ev e he;obtain⟨loc,wr,sy⟩:=e;unfold Ev0 at hev
 cases loc with
 | cell a=>
  rw[show MemAct.ofEvent ⟨.cell a,wr,sy⟩=.access ⟨.cell a,wr,sy⟩ from rfl] at hy;simp only[MemAct.touch?,bJ] at hy;subst hy;obtain⟨_,_,⟨h1,h2⟩|h1⟩:=hev
  ·obtain⟨a1,a2,a3,a4,a5⟩:=hZ.iP _ h1;refine .inr ⟨λhs=>hs.elim a2 a3,λho=>ho.elim a5 (by simp[Loc.isMemory]),λk _ hk=>?_,λhw=>by dsimp only at hw h2;rw[h2] at hw;cases hw⟩;rcases hk with hk|⟨hk,_⟩
   ·have:=(hg.lt k _ hk).1;omega
   ·exact a4 hk
  ·obtain⟨b1,b2,b3⟩:=hg'.xl _ h1;refine .inr ⟨λhs=>?_,λho=>?_,λk _ hk=>?_,λ_ k _ hk=>?_⟩
   ·have:=hZ.W0;have:=hZ.A0;rcases hs with hs|hs<;>omega
   ·rcases ho with ho|ho
    ·have:=(hZ.sh _ ho).1;omega
    ·simp[Loc.isMemory] at ho
   ·rcases hk with hk|⟨hk,_⟩
    ·exact hg'.cur k _ hk h1
    ·have:=hZ.C0;omega
   ·rcases hk with hk|hk
    ·have:=(hZ.iP _ hk).1;omega
    ·exact b3 k hk.symm
 | obj r=>
  dsimp only at hev;obtain⟨_,h1,h2,h3⟩:=hev;subst h1;subst h3;simp only[MemAct.ofEvent,MemAct.touch?,bJ] at hy;subst hy;obtain⟨a1,a2,a3,a4,a5⟩:=hZ.iP _ h2
  exact .inr ⟨λhs=>hs,λho=>ho.elim a5 (by simp[Loc.isMemory]),λk _ hk=>by have:=(hg.lt k _ hk).1;omega,λhw=>by cases hw⟩
 | mark m=>
  dsimp only at hev;rcases hev with hev|⟨a,hm,hb⟩
  ·cases m<;>first|exact(hev:False).elim|(simp only[MemAct.ofEvent,MemAct.touch?] at hy;cases hy)
  ·rcases hm with rfl|rfl<;>(simp only[MemAct.ofEvent,MemAct.touch?,bJ] at hy;subst hy;exact .inl ⟨.inl hb,by simp⟩)
 | _=>exact(hev:False).elim
end
end
end Go.Mc
