/- A part of what the last file proves. -/
import Derived.Test.YtgpbhjjajpbeeaaGreatDoorA03
set_option linter.all false
set_option maxHeartbeats 4000000
namespace Go.Zn
variable{k v x:aX}{b c i l m r:Nat}{α:Type}
section
variable{Z:Zone}{P:Program}
def Xq(g:POK Z P)(j:Bool):∀(n:Nat)(t:bT)(v:aX),VP Z v->Sf Z P (λ_=>True) (Instr.checkKey j n t v):=by
 intro n
 induction n with
 | zero=>intro t v _;exact J9 _ trivial
 | succ n e=>
  intro t v c;unfold Instr.checkKey;refine aA (o9 t) λd _=>?_;split
  refine aA (I9 _) λi _=>?_;dsimp;split
  split
  exact aA (R:=λ_=>True) (D9 g _) λ_ _=>aA (cg _) λ_ _=>aA (R:=λ_=>True) (D9 g _) λ_ _=>e _ _ c.kS.2
  exact aA (cg _) λ_ _=>aA (R:=λ_=>True) (D9 g _) λ_ _=>e _ _ c.kS.2
  exact e _ _ c.kS.2
  refine aA (R:=λ_=>True) (xt _ trivial λi b _=>?_) λr _=>aS trivial;exact aA (J6 _) λ_ _=>aA (yh _ c.mP _) λu h=>aA (e _ _ h) λ_ _=>aS trivial
  refine aA (R:=λ_=>True) (Xd _ trivial λf _ b _=>?_) λr _=>aS trivial;exact Q9 _ (aA (yh _ c.mP _) λu h=>aA (e _ _ h) λ_ _=>aS trivial) (aS trivial)
  exact aS trivial
  apply o5
  apply o5
  apply o5
  trivial
def qT(Z:Zone)(l:List MapEntry):Prop:=∀e∈l,VP Z e.key/\VP Z e.val
def b2l(d:POK Z P)(t:bT)(f:VP Z k):∀(l:List MapEntry)(i:Nat),qT Z l->Sf Z P (λo=>∀p,o=some p->VP Z p.2) (Instr.findAsking t k l i):=by
 intro l
 induction l with
 | nil=>intro i _;exact aS<|aZ
 | cons e l g=>
  intro i c;unfold Instr.findAsking;refine aA (uE d _ f (c e<|aZ).1) λb _=>?_;split
  exact aS (by rintro _ ⟨⟩;exact(c e<|aZ).2)
  exact g _ λx h=>c x<|by simp[h]
def b8C(d:TypeDesc)(k:aX):∀(l:List MapEntry)(i:Nat)(r:Option (Nat×Value)),qT Z l->Instr.findNow d k l i=some r->∀p,r=some p->VP Z p.2:=by
 intro l
 induction l with
 | nil=>intro i r _ h p b;injection h with h;grind
 | cons e l f=>
  intro i r c h p b;unfold Instr.findNow at h;split at h
  injection h with h;subst h;injection b with b;subst b;exact(c e<|aZ).2
  exact f _ r (λx g=>c x<|by simp[g]) h p b
  cases h
def cC(c:POK Z P)(t:bT)(f:VP Z k){l:List MapEntry}(b:qT Z l):Sf Z P (λo=>∀p,o=some p->VP Z p.2) (Instr.findKey t k l):=by
 refine .bind (o9 _) λd _=>?_;split
 rename_i e;exact .pure<|b8C d k l 0 _ b e
 exact b2l c _ f _ _ b
def je.kY{es:Array MapEntry}(h:je Z (.map es c)):∀e∈es,VP Z e.key/\VP Z e.val:=by cases h;trivial
def VP.kY(h:VP Z (.map (some r))):Z.D r:=by cases h;trivial
def c1S(h:POK Z P)(t:bT){i:aX}(w:VP Z x)(m:VP Z i)(l:Bool):Sf Z P (VP Z) (Instr.lookup t x i l):=by
 unfold Instr.lookup;refine aA (o9 _) λd _=>?_;split
 rename_i u q;dsimp;have a:∀r:Value×Bool,VP Z r.1->VP Z (if l then .tuple #[r.1,.bool r.2] else r.1):=λr b=>by
  split
  exact .tuple _ ((AP.nil.push b).push<|.bool _)
  exact b
 generalize s:(λr:Value×Bool=>(if l then Value.tuple _ else r.1))=f;have a:∀r,VP Z r.1->VP Z (f r):=by subst s;exact a
 have y:∀v o,(if l=true then Value.tuple #[v,.bool o] else v)=f (v,o):=by subst s;intro v o;rfl
 simp only[y]
 cases w with
 | FV=>
  refine aA (aS<|by intro e p;simp at p) λj g=>aA (Xq h _ _ _ _ m) λ_ _=>aA (cC h _ m g) λo k=>?_;split
  exact aA (aS<|k _ rfl) λr b=>aS<|a r b
  exact aA (Y1 h _) λz n=>aA (aS n) λr b=>aS<|a r b
 | map r b=>
  refine aA (U9 b) λo k=>?_;split
  refine aA (aS λe p=>k.kY e<|iL) λj g=>aA (Xq h _ _ _ _ m) λ_ _=>aA (cC h _ m g) λo k=>?_;split
  exact aA (aS<|k _ rfl) λr b=>aS<|a r b
  exact aA (Y1 h _) λz n=>aA (aS n) λr b=>aS<|a r b
  trivial
 | _=>trivial
 trivial
def a9D{a b:aX}(e:VP Z a)(d:VP Z b):Sf Z P (VP Z) (Instr.keyThatStays a b):=by
 refine Q9 _ (.pure d)<|.bind (N7 _) λ_ _=>.pure ?_;split
 exact d
 exact e
def mem_modify{f:α->α}{l:Array α}{x:α}(h:x∈l.modify i f):x∈l\/∃y∈l,x=f y:=by let⟨j,a⟩:=iQ.1 h;grind
def Re(l:POK Z P)(t:bT){m:aX}(n:VP Z m)(c:VP Z k)(q:VP Z v):Sf Z P (λ_=>True) (Instr.mapUpdate t m k v):=by
 unfold Instr.mapUpdate;refine aA (o9 _) λd _=>?_;split
 split
 exact D9 l _
 refine aA (U9 n.kY) λo p=>?_;split
 rename_i r j;have a:=p.kY;refine aA (Xq l _ _ _ _ c) λ_ _=>aA (cC l _ c (λe f=>a e (by simpa using f))) λo p=>?_;split
 rename_i i w;refine aA (a9D ?_ c) λs g=>?_
 cases e:r[i]? with
 | none=>exact c
 | some x=>exact(a x (Array.mem_of_getElem? e)).1
 refine Dt n.kY (.map _ _ λe f=>?_);obtain h|⟨y,u,rfl⟩:=mem_modify f
 exact a e h
 trivial
 refine Dt n.kY (.map _ _ λe f=>?_);obtain h|rfl:=NU.1 f
 exact a e h
 trivial
 trivial
 trivial
 trivial
def b4K{l:Array α}{x:α}(h:x∈l.eraseIdxIfInBounds i):x∈l:=by grind
def c1T(c:POK Z P)(ts:Array TypeId)(t:bT){args:dU}(h:AP Z args):Sf Z P (VP Z) (Builtin.delete_ ts t args):=by
 unfold Builtin.delete_;split
 rename_i mt m k e;have e:=lC e;have l:=lC e.2;have b:=h.get l.1;have g:=h.get l.2;refine aA (o9 _) λd _=>?_;split
 split
 exact aA (Xq c _ _ _ _ g) λ_ _=>aS<|.tuple _ kU
 refine aA (U9 b.kY) λo j=>?_;split
 rename_i n i;have a:=j.kY;refine aA (Xq c _ _ _ _ g) λ_ _=>aA (cC c _ g (λe f=>a e<|iL)) λo j=>?_;split
 exact aA (Dt b.kY (.map _ _ λe f=>a e<|b4K f)) λ_ _=>aS<|.tuple _ kU
 exact aA (Dt b.kY<|.map _ _ a) λ_ _=>aS<|.tuple _ kU
 trivial
 trivial
 trivial
 trivial
def c5F(t:bT)(e:VP Z x):Sf Z P (VP Z) (Instr.range t x):=by
 unfold Instr.range;refine aA (o9 _) λd _=>?_;split
 exact aA (aS<|.stringIter _ _) λo a=>aA (Z5 a) λr c=>aS<|.ptr _ c
 exact aA (aS<|.sJ _ _ _) λo a=>aA (Z5 a) λr c=>aS<|.ptr _ c
 refine aA (U9 e.kY) λo a=>?_;split
 exact aA (aS<|.iter _ _ _ _ e.kY) λo a=>aA (Z5 a) λr c=>aS<|.ptr _ c
 trivial
 trivial
def je.Bq{a:Nat}{seen:Array Nat}(h:je Z (.mapIter (some m) a seen b)):Z.D m:=by cases h;trivial
def c7e(u:VP Z x)(s:Bool)(t:bT):Sf Z P (VP Z) (Instr.next x s t):=by
 unfold Instr.next;have a:Sf Z P (VP Z) (pure (.tuple #[.bool false])):=aS (.tuple _ (AP.nil.push<|.bool _));dsimp only;split
 rename_i r _;have k:Z.D r:=u.iD;refine aA (U9 k) λo l=>?_;split
 split
 exact aA (Dt k<|.stringIter _ _) λ_ _=>aS (.tuple _ (((AP.nil.push<|.bool _).push<|.int _ _).push<|.int _ _))
 exact a
 exact a
 rename_i m h seen q;have p:=l.Bq;refine aA (U9 p) λo l=>?_;split
 rename_i A i;have f:=l.kY;split
 exact GX _ _ trivial
 refine aA (N7 _) λn _=>?_;split
 rename_i e z;have b:e∈A:=by
  obtain g|g:=dW.1 (Array.mem_of_getElem? z)
  split at g<;>simp at g
  let⟨y,v,c⟩:=iT.1 g;injection c with c;subst c;obtain j|j:=dW.1 v
  exact(Array.mem_filter.1 (Array.mem_filter.1 j).1).1
  simp_all
 exact aA (Dt k<|.iter _ _ _ _ p) λ_ _=>aS (.tuple _ (((AP.nil.push<|.bool _).push (f e b).1).push (f e b).2))
 exact a
 trivial
 trivial
 trivial
 trivial
def c5G(f:VP Z x):Sf Z P (VP Z) (Instr.entry x):=by
 unfold Instr.entry;split
 refine aA (U9 f.iD) λo d=>?_;split
 split
 refine aA (U9 d.Bq) λo d=>?_;split
 have c:=d.kY;refine Q9 _ (GX _ _ trivial) ?_
 split
 exact aS (.tuple _ fU)
 trivial
 trivial
 trivial
 trivial
 trivial
def Xg(h:Z.D l):Sf Z P (eh Z) (Instr.getLoop l):=by
 refine aA (U9 h) λo b=>?_;split
 cases b;exact .pure<|kT
 trivial
def b2m(c:POK Z P)(h:Z.D l):Sf Z P (λ_=>True) (Instr.beginRound l):=by
 refine aA (Xg h) λr b=>aA (Dt h<|.loop _ ⟨b.pending,b.fn,b.tmps,b.assign,b.body,b.defers⟩) λ_ _=>?_;split
 all_goals trivial
def b6e(h:Z.D l)(j:Option Code)(d:∀c,j=some c->Wh c):Sf Z P (VP Z) (Instr.endRound l j):=aA (Xg h) λr b=>aA (Dt h<|.loop _ ⟨d,b.fn,b.tmps,b.assign,b.body,b.defers⟩) λ_ _=>.pure<|.bool _
def b8D(d:POK Z P)(h:Z.D l):Sf Z P (λj=>∀c,j=some c->Wh c) (Instr.endLoop l):=by
 refine aA (Xg h) λr a=>?_;split
 exact aA (R:=λ_=>True) (D9 d _) λ_ _=>aA (Dt h<|.loop _ ⟨a.pending,a.fn,a.tmps,a.assign,a.body,a.defers⟩) λ_ _=>aS a.pending
 exact aA (Dt h<|.loop _ ⟨a.pending,a.fn,a.tmps,a.assign,a.body,a.defers⟩) λ_ _=>.pure a.pending
def a4O(h:Z.D l):Sf Z P (λds=>ds=[]) (Instr.takeDeferred l):=by
 refine aA (U9 h) λo b=>?_;split
 cases b;exact aA (Dt h .taken) λ_ _=>.pure rfl
 trivial
def jY(Z:Zone)(ds:List Deferred):Prop:=∀d∈ds,∃r,d={target:=.collected r,args:=#[]}/\Z.D r
def b4L{fn:FuncId}{f:dU}(q:AP Z f)(c:Array Tmp){b e:Code}(n:gV Z b)(o:gV Z e){a:Option Nat}(m:∀l,a=some l->Z.D l):
 Sf Z P (λr=>Z.D r.1/\jY Z r.2) (Instr.enterLoop fn f c b e a):=by
 unfold Instr.enterLoop;split
 refine aA (Xg<|m _ rfl) λr j=>aA (R:=λp=>Z.D p.1/\jY Z p.2) (aS ⟨j.defers,by intro d i;cases i⟩) λp h=>?_;exact aA (Z5<|.loop _ ⟨aZ,trivial,q,n,o,h.1⟩) λl k=>aS ⟨k,h.2⟩
 refine aA (Z5 .deferred) λr j=>aA (R:=λp=>Z.D p.1/\jY Z p.2) (aS ⟨j,by intro d i;grind⟩) λp h=>?_;exact aA (Z5<|.loop _ ⟨aZ,trivial,q,n,o,h.1⟩) λl k=>aS ⟨k,h.2⟩
def US(a:Addr)(n:Nat):Sf Z P (λ_=>True) (Builtin.holdsCells a n):=by refine .bind (yg _) λs _=>?_;split<;>exact .pure trivial
def ud(x:aX):Sf Z P (λ_=>True) (Builtin.lenOf x):=by unfold Builtin.lenOf;split<;>trivial
def dx(b n:Nat)(c:VP Z x):Sf Z P (AP Z) (Builtin.firstCells b n x):=by
 cases c with
 | slice a _ _ d=>apply cT d
 | jv=>exact aS kU
 | string=>exact .pure<|ux _
 | _=>trivial
def UI{c:dU}(h:AP Z c)(n:Nat):AP Z (Builtin.zeroCells c n):=aM h _
def b6f(f l n:Nat)(d:Option Addr)(x:aX):Sf Z P (λ_=>True) (Builtin.mayShare f l n d x):=by
 unfold Builtin.mayShare
 have e:∀c:Bool,Sf Z P (λ_=>True) (if (!c)=true then pure true else(match x with
  | .slice (some b) _ _=>(do let r <-Builtin.holdsCells b (n*f);pure (!r||d.any (·.block==b.block)):Sem Bool)
  | _=>pure false)):=λc=>by
  refine Q9 _ (aS trivial) ?_;split
  ·exact aA (US _ _) λ_ _=>aS trivial
  ·exact aS trivial
 cases d with
 | none=>exact aA (R:=λ_=>True) (aS trivial) λr _=>e r
 | some a=>exact aA (US _ _) λ_ _=>aA (Xe _) λ_ _=>aA (R:=λ_=>True) (aS trivial) λr _=>e r
end
section
variable{Z:Zone}{P:Program}
def c1V:Sf Z P (λ_=>True) (mark .noRoom):=⟨trivial,trivial⟩
def c8S{Q:α->Prop}(x:String):Sf Z P Q (unsupported (.resourceLimit x):Sem α):=trivial
def b6g(hP:POK Z P)(zeros:Bool)(size n:Nat)(elem:bT)(hx:VP Z x):
 Sf Z P (AP Z) (if (!zeros)=true then Builtin.firstCells size n x else if n*size=0 then pure #[] else do pure (Builtin.zeroCells (<-zeroValue elem).cells n)):=
 Q9 _ (dx _ _ hx) (Q9 _ (aS kU) (aA (Y1 hP _) λz hz=>aS (UI hz.cells _)))
def fw{p:Prop}(h:p:=by repeat' first|with_reducible (first|exact aS (.jv _ _)|exact aS (.slice _ _ _ kT)|refine aA (J6 _) λ_ _=>?_|refine aA (o9 _) λ_ _=>?_|refine aA (I9 _) λ_ _=>?_|refine aA (MB _) λ_ _=>?_|refine aA (ud _) λ_ _=>?_|refine aA (N7 _) λ_ _=>?_|refine aA (C2 _) λ_ _=>?_|refine aA (b6f _ _ _ _ _) λ_ _=>?_|refine aA c1V λ_ _=>?_|refine aA (Y1 hP _) λ_ _=>?_|refine aA (b6g hP _ _ _ _ hx) λ_ _=>?_|refine aA (dx _ _ hs) λ_ _=>?_|refine aA (G1 bz _ _ (AP.list kT)) λ_ _=>?_|refine aA (Ey _ ((AP.append kT kT).append (UI (VP.cells kT) _))) λ_ _=>?_|refine aA (R:=λ_=>True) (aS trivial) λ_ _=>?_|refine aA (R:=λ_=>True) (D9 hP _) λ_ _=>?_|exact c8S _|exact D9 hP _|refine aA (R:=λ_=>True) (Q9 _ (D9 hP _) ?_) λ_ _=>?_|refine Q9 _ ?_ ?_)|split):p:=h
def c1W(hP:POK Z P)(ts:Array TypeId)(t:bT){args:dU}(h:AP Z args):Sf Z P (VP Z) (Builtin.append_ ts t args):=by
 unfold Builtin.append_;split
 case h_2=>exact o5 _
 rename_i sT s x e;have e:=lC e;have e':=lC e.2;have hs:VP Z s:=h.get e'.1;have hx:VP Z x:=h.get e'.2;refine aA (o9 _) λd _=>?_;split
 case h_2=>exact o5 _
 rename_i elem;have hs0:=hs
 cases hs0 with
 | jv l c=>
  dsimp only
  exact fw
 | slice a l c ha=>
  dsimp only
  exact fw
 | _=>exact(trivial:jg (.stuck _))
end
section
variable{Z:Zone}{P:Program}
def c7f(ts:Array TypeId)(t:bT){args:dU}(h:AP Z args):Sf Z P (VP Z) (Builtin.copy_ ts t args):=by
 unfold Builtin.copy_;split
 case h_2=>exact o5 _
 rename_i m d x e;have f:=lC (lC e).2;have b:=h.get f.2;refine aA (o9 _) λd _=>?_;split
 case h_2=>exact o5 _
 cases (h.get f.1) with
 | jv=>exact aA (ud _) λ_ _=>aA (J6 _) λ_ _=>aA (dx _ _ b) λ_ _=>aS (.int _ _)
 | slice a l c i=>exact aA (ud _) λ_ _=>aA (J6 _) λ_ _=>aA (dx _ _ b) λk g=>aA (G1 i _ _ g.list) λ_ _=>aS (.int _ _)
 | _=>trivial
def c8T(ts:Array TypeId)(t:bT){args:dU}(h:AP Z args):Sf Z P (VP Z) (Builtin.len_ ts t args):=by
 unfold Builtin.len_;split
 case h_2=>exact o5 _
 rename_i b x e;have a:VP Z x:=h.get (lC e).2;refine aA (o9 _) λd _=>?_;split
 exact aS<|.int _ _
 exact aS<|.int _ _
 refine aA (o9 _) λd _=>?_;split
 exact aS<|.int _ _
 exact o5 _
 exact aS<|.int _ _
 exact aS<|.int _ _
 exact aS<|.int _ _
 refine aA (U9 a.kY) λo c=>?_;split
 exact aS<|.int _ _
 apply o5
 cases a
 apply o5
def c8U(ts:Array TypeId)(t:bT){args:dU}(h:AP Z args):Sf Z P (VP Z) (Builtin.cap_ ts t args):=by
 unfold Builtin.cap_;split
 case h_2=>exact o5 _
 rename_i b x e;refine aA (o9 _) λd _=>?_;split
 exact aS<|.int _ _
 refine aA (o9 _) λd _=>?_;split
 exact aS<|.int _ _
 apply o5
 exact aS<|.int _ _
 exact aS<|.int _ _
 cases (h.get (lC e).2)
 trivial
def c7g(x y:aX):Sf Z P (VP Z) (Builtin.max2 x y):=by
 unfold Builtin.max2;split
 exact aS (.int _ _)
 ·split
  exact aA (N7 _) λ_ _=>aS (.float _ _)
  all_goals exact aS (.float _ _)
 exact aA (Ds _ _ _) λv _=>aA (bh _) λb _=>aS (.string _)
 exact J9 _ trivial
 exact J9 _ trivial
 apply o5
def c7h(x y:aX):Sf Z P (VP Z) (Builtin.min2 x y):=by
 unfold Builtin.min2;split
 exact aS (.int _ _)
 ·split
  exact aA (N7 _) λ_ _=>aS (.float _ _)
  all_goals exact aS (.float _ _)
 exact aA (Ds _ _ _) λv _=>aA (bh _) λb _=>aS (.string _)
 exact J9 _ trivial
 exact J9 _ trivial
 trivial
def wd{f:Value->Value->Sem Value}(d:∀x y,Sf Z P (VP Z) (f x y)):∀(l:jl)(x:aX),VP Z x->Sf Z P (VP Z) (l.foldlM f x):=by
 intro l
 induction l with
 | nil=>intro x a;trivial
 | cons y l b=>intro x a;exact aA (d _ _) λz c=>b z c
def c8V(ts:Array TypeId)(t:bT){args:dU}(h:AP Z args):Sf Z P (VP Z) (Builtin.max_ ts t args):=by
 unfold Builtin.max_;split
 apply o5
 rename_i x l e;exact wd c7g _ _ (h.list x<|fU)
def c8W(ts:Array TypeId)(t:bT){args:dU}(h:AP Z args):Sf Z P (VP Z) (Builtin.min_ ts t args):=by
 unfold Builtin.min_;split
 apply o5
 rename_i x l e;exact wd c7h _ _ (h.list x<|fU)
def a6I(ts:Array TypeId)(t:bT){args:dU}(h:AP Z args):Sf Z P (VP Z) (Builtin.unsafeSliceData_ ts t args):=by
 let⟨l⟩:=args;obtain _|⟨x,_|⟨y,l⟩⟩:=l
 exact o5 _
 have d:VP Z x:=h _<|aZ
 cases d with
 | jv=>exact aS .kK
 | slice a n c b=>refine Q9 _ (aS<|.ptr _ b) (aA (aR b) λo _=>Q9 _ (aS<|.ptr _ b) (aA (Js _) λe _=>aA (Z5<|.view _ _ b) λr f=>aS<|.ptr _ f))
 | _=>trivial
 trivial
def a9E(d:POK Z P)(ts:Array TypeId)(t:bT){args:dU}(h:AP Z args):Sf Z P (VP Z) (Builtin.unsafeString_ ts t args):=by
 obtain⟨l⟩:=args;rcases l with _|⟨x,_|⟨y,_|⟨z,l⟩⟩⟩
 exact o5 _
 cases x<;>exact(trivial:jg (.stuck _))
 have c:∀p,VP Z (.pointer p)->Sf Z P (VP Z) (Builtin.unsafeString_ ts t #[.pointer p,y]):=λp f=>by
  unfold Builtin.unsafeString_;refine aA (MB _) λn _=>?_;split
  case h_2=>exact o5 _
  refine Q9 _ (aA (R:=λ_=>True) (D9 d _) λ_ _=>?_) (Q9 _ (GX _ _ trivial) ?_)
  refine Q9 _ (GX _ _ trivial) ?_
  cases p with
  | none=>exact Q9 _ (aS (.string _)) (D9 d _)
  | some a=>refine Q9 _ (aS (.string _)) (aA (Js _) λe _=>aA (GQ _ _ _) λb _=>Q9 _ (aA (Su f.iD _ _) λs _=>aA (bp _ _) λ_ _=>aS (.string _)) (J9 _ trivial))
  cases p with
  | none=>exact Q9 _ (aS (.string _)) (D9 d _)
  | some a=>refine Q9 _ (aS (.string _)) (aA (Js _) λe _=>aA (GQ _ _ _) λb _=>Q9 _ (aA (Su f.iD _ _) λs _=>aA (bp _ _) λ_ _=>aS (.string _)) (J9 _ trivial))
 cases x with
 | pointer p=>exact c p (h _ aZ)
 | _=>trivial
 trivial
def a5S(ts:Array TypeId)(t:bT){args:dU}(h:AP Z args):Sf Z P (VP Z) (Builtin.unsafeStringData_ ts t args):=by
 obtain⟨l⟩:=args;obtain _|⟨x,_|⟨y,l⟩⟩:=l
 exact o5 _
 cases x with
 | string s=>
  unfold Builtin.unsafeStringData_
  refine Q9 _ (aA (N7 _) λc _=>Q9 _ (aS .kK) (aA (Js _) λe _=>aA (Ey _ kU) λa b=>aA (IS _) λ_ _=>aS (.ptr _ b))) (aA (Js _) λe _=>aA (Ey _ (ux _)) λa b=>aA (bp _ _) λ_ _=>aS (.ptr _ b))
 | _=>trivial
 trivial
inductive ep(Z:Zone):Target->Prop
 | fn (fn:Fn) (c:Array Value) (h:AU Z fn) (hc:AP Z c):ep Z (.fn fn c)
 | nil:ep Z .nil
 | builtin (b:Builtin) (ts:Array TypeId) (t:TypeId) (cs:Array Bool) (h:Zb b=true):ep Z (.builtin b ts t cs)
def DP(Z:Zone)(d:Deferred):Prop:=ep Z d.target/\AP Z d.args
inductive uI(Z:Zone):Next->Prop
 | value (v:Value) (h:VP Z v):uI Z (.value v)
 | skip:uI Z .skip
 | enter (f:FuncId) (args:Array Value) (h:Z.F f) (ha:AP Z args):uI Z (.enter f args)
 | round (l:Nat) (f:FuncId) (tmps:Array Value) (assign body:Code) (h:Z.D l) (ht:AP Z tmps) (ha:gV Z assign) (hb:gV Z body):uI Z (.round l f tmps assign body)
def nK{s:Sem Value}(h:Sf Z P (VP Z) s):Sf Z P (uI Z) (do pure (.value (<-s))):=aA h λv a=>aS<|.value _ a
def YX{s:Sem Unit}(h:Sf Z P (λ_=>True) s):Sf Z P (uI Z) (do s;pure .skip):=aA h λ_ _=>aS .skip
structure t_(Z:Zone)(P:Program):Prop extends POK Z P where
 num:∀f fn,Z.F f->P.funcs[f]?=some fn->(fn.name== "runtime.NumGoroutine")=false
 ext:∀f fn,Z.F f->P.funcs[f]?=some fn->fn.body=none->(∀e args,Extern.findNext fn=some e->AP Z args->Sf Z P (uI Z) (e args))/\(∀e args,Extern.find fn=some e->AP Z args->Sf Z P (VP Z) (e args))
 code:∀f fn c,Z.F f->P.funcs[f]?=some fn->fn.body=some c->gV Z c
def b8E(a:POK Z P)(b:Builtin)(c:Zb b=true)(ts:Array TypeId)(t:bT)(cs:Array Bool){args:dU}(h:AP Z args):Sf Z P (uI Z) (builtin b ts t cs args):=by
 unfold builtin
 cases b<;>first
  | exact nK (c1W a _ _ h)
  | exact nK (c8U _ _ h)
  | exact nK (c7f _ _ h)
  | exact nK (c1T a _ _ h)
  | exact nK (c8T _ _ h)
  | exact nK (c8V _ _ h)
  | exact nK (c8W _ _ h)
  | exact nK (rf a _)
  | exact nK (a6I _ _ h)
  | exact nK (a9E a _ _ h)
  | exact nK (a5S _ _ h)
  | cases c
def IH(i:t_ Z P){f:FuncId}(g:Z.F f){args:dU}(h:AP Z args):Sf Z P (uI Z) (callFunc f args):=by
 unfold callFunc;apply aA G7;rintro p rfl
 cases b:p.funcs[f]? with
 | none=>apply o5
 | some d=>
  dsimp;rw[i.num f d g b];cases j:d.body with
  | some c=>exact aS<|.enter _ _ g h
  | none=>
   let⟨m,n⟩:=i.ext f d g b j;refine aA (R:=λ_=>True) ⟨trivial,trivial⟩ λ_ _=>?_
   cases k:Extern.findNext d with
   | some=>simp_all
   | none=>
    dsimp
    cases l:Extern.find d with
    | some e=>exact aA (n e _ l h) λv o=>aS<|.value _ o
    | none=>exact Q9 _ (aS (.value _<|.tuple _ kU))<|J9 _ trivial
def eA(Z:Zone):Place->Prop
 | .val v=>VP Z v
 | .var a=>Z.D a.block
def Wv(t:bT){x:Place}(h:eA Z x):Sf Z P (VP Z) (x.get t):=by
 cases x with
 | val=>trivial
 | var=>exact Jw t h
def c1X(f:POK Z P):∀(l:List FieldStep)(t:bT)(x:Place),eA Z x->Sf Z P (λr=>eA Z r.2) (follow l t x):=by
 intro l
 induction l with
 | nil=>intro t x h;exact aS h
 | cons s l e=>
  intro t x h;unfold follow;refine aA (o9 _) λd _=>?_;split
  split
  split
  exact aA (Wv t h) λv g=>aA (Qm f g) λa i=>aA (G0 i _) λb c=>e _ _ c
  split
  exact aA (G0 h _) λb c=>e _ _ c
  exact aA (yh _ (VP.mP h) _) λb c=>e _ _ c
  apply o5
  apply o5
  apply o5
def c7j(d:POK Z P)(t u:bT)(f:VP Z v)(a b:String):Sf Z P (VP Z) (Builtin.ssaWrapNilChk_ #[t] u #[v,strVal a,strVal b]):=by
 unfold Builtin.ssaWrapNilChk_
 cases f with
 | ptr a e=>exact aS (.ptr _ e)
 | kK=>
  refine aA (N7 (.extern _ 2)) λc _=>?_;dsimp only
  repeat' first
   | refine aA (o9 _) λ_ _=>?_
   | refine aA (I9 _) λ_ _=>?_
   | assumption
   | split
 | _=>trivial
def b2n(e:POK Z P)(t:bT){x:Place}(h:eA Z x)(f:Bool)(w:Option String):Sf Z P (VP Z) (receiverAt t x f w):=by
 unfold receiverAt;refine aA (o9 _) λd _=>?_;split
 exact Wv _ h
 refine aA (Wv _ h) λv b=>?_;split
 exact aA (c7j e _ _ b _ _) λv b=>aA (Qm e b) λa c=>Jw _ c
 exact aA (aS b) λv b=>aA (Qm e b) λa c=>Jw _ c
 exact aS (.ptr _ h)
 apply o5
 exact Wv _ h
def c1Y(c:POK Z P){name:String}(o:Z.N name):∀(n:Nat)(t:bT)(v:aX),Z.T t->VP Z v->Sf Z P (λr=>Z.F r.1/\VP Z r.2) (method n t v name):=by
 intro n
 induction n with
 | zero=>intro t v _ _;trivial
 | succ n j=>
  intro t v s p;unfold method;refine aA (I9 _) λi l=>?_;split
  rename_i m e;have a:m.name=name:=fU
  refine aA (c1X c _ _ _ (p)) λr g=>?_;let⟨u,x⟩:=r;dsimp;split
  refine aA (Wv _ g) λw d=>?_;split
  exact j _ _ d.kS.1 d.kS.2
  exact D9 c _
  exact o5 _
  rename_i f q k;exact aA (b2n c _ g _ _) λw d=>aS ⟨c.methods t i s l m (NV e) (a▸o) f q k,d⟩
  trivial
def b2o(c:t_ Z P){a:aX}(b:VP Z a){name:String}(d:Z.N name){args:dU}(h:AP Z args):Sf Z P (uI Z) (callMethod a name args):=by
 unfold callMethod
 cases b with
 | iface t v e g=>refine aA G7 λp _=>aA (c1Y c.toPOK d _ _ _ e g) λr b=>?_;exact IH c b.1 ((AP.one b.2).append h)
 | _=>trivial
def c1Z:∀(l:List (Tmp×Value)),(∀p∈l,VP Z p.2)->∀c:dU,AP Z c->AP Z (l.foldl (λc(p:Tmp×Value)=>c.setIfInBounds p.1 p.2) c):=by
 intro l
 induction l with
 | nil=>simp
 | cons p l d=>intro a c h;exact d (λq b=>a q<|by simp[b]) _ (h.set _ (a p<|aZ))
def c5I(e:Z.D l){args:dU}(h:AP Z args):Sf Z P (uI Z) (Instr.yield l args):=by refine aA (Xg e) λr d=>?_;refine Q9 _ trivial (aS<|.round _ _ _ _ _ e ?_ d.assign d.body);rw[<-oM,Array.toList_zip];refine c1Z _ (λp f=>?_) _ d.tmps;let⟨a,b⟩:=p;exact h.list b (nN f).2
def v_(i:t_ Z P){d:Deferred}(h:DP Z d):Sf Z P (uI Z) (invoke d.target d.args):=by
 let⟨t,g⟩:=d;let⟨m,a⟩:=h;unfold invoke
 cases m with
 | nil=>trivial
 | builtin b s t u o=>exact b8E i.toPOK b o s t u a
 | fn v c j q=>
  cases j with
  | func f j=>exact IH i j<|a.append q
  | method n r=>
   cases e:g[0]? with
   | none=>trivial
   | some=>exact b2o i (a.get e) r<|a.extract _ _
  | yield l p=>exact c5I p a
def b8F{f:aX}(g:VP Z f){args:dU}(h:AP Z args):Sf Z P (DP Z) (Deferred.ofValue f args):=by
 cases g with
 | func i a c b d e=>exact aS ⟨.fn _ _ b e,AP.append d h⟩
 | nilFunc=>exact aS ⟨.nil,h⟩
 | _=>trivial
def CL{ρ:Operand->Value}{c:Call}(d:∀x∈c.operands,VP Z (ρ x))(g:WJ Z c.callee)(t:bT):Sf Z P (DP Z) (resolve ρ c t):=by
 unfold resolve;have a:AP Z (c.args.map ρ):=λv h=>by obtain⟨x,i,rfl⟩:=iT.1 h;exact d x<|by unfold Call.operands;simp[i]
 dsimp
 cases e:c.callee with
 | builtin=>rw[e] at g;exact aS ⟨.builtin _ _ _ _ g,a⟩
 | invoke r n=>rw[e] at g;exact aS ⟨.fn _ _ (.method n g) kU,(AP.one (d r<|by unfold Call.operands;simp[e])).append a⟩
 | value f=>exact b8F (d f<|by unfold Call.operands;simp[e]) a
def b1m:∀(l:List FieldStep)(t:bT)(x:Option Value),(∀v,x=some v->VP Z v)->Sf Z P (λr=>∀e v,r=.ok (e,some v)->VP Z v) (followBlind l t x):=by
 intro l
 induction l with
 | nil=>intro t x h;exact aS<|iL
 | cons s l a=>
  intro t x h;unfold followBlind;refine aA (o9 _) λd _=>?_;split
  split
  split
  exact aS<|aZ
  exact a _ _<|aZ
  exact o5 _
  exact aS<|aZ
  exact aA (yh _ (VP.mP<|h _ rfl) _) λb c=>a _ _<|iL
  apply o5
  simp_all
  apply o5
  trivial
def b6h{name:String}:∀(n:Nat)(t:bT)(v:aX),VP Z v->Sf Z P (λ_=>True) (nilAhead n t v name):=by
 intro n
 induction n with
 | zero=>intro t v _;trivial
 | succ n c=>
  intro t v b;unfold nilAhead;refine aA (I9 _) λi e=>?_;split
  refine aA (b1m _ _ _ iL) λr a=>?_;split
  exact aS trivial
  split
  exact c _ _ (a _ _ rfl).kS.2
  exact aS trivial
  exact o5 _
  exact aS trivial
  exact aS trivial
  refine aA (o9 _) λd _=>?_;split<;>exact aS trivial
  trivial
end
section
variable{Z:Zone}{P:Program}
def rQ(z:t_ Z P){ρ:Operand->Value}{o:Oper}(A:OpK Z o.op)(C:∀x∈o.op.operands,VP Z (ρ x)):Sf Z P (uI Z) (execOp ρ o):=by
 obtain⟨R,E,J,V,G,guard⟩:=o;dsimp only at A C;have j:=C;unfold execOp
 cases E with
 | move x=>exact aS (.value _ (j x<|kN))
 | assign x=>exact aS (.value _ (j x<|kN))
 | pick c a b=>
  refine aA (bh _) λt _=>aS<|.value _ ?_;split
  exact j a<|kN
  exact j b<|kN
 | alloc e=>exact nK<|c5u z.toPOK _
 | box e x=>exact nK (c8R _ (j x<|kN))
 | build t Q=>
  refine nK<|c5w z.toPOK _ λp I=>?_;obtain⟨q,F,rfl⟩:=iT.1 I;obtain⟨i,x⟩:=q
  exact j x<|by simp[Op.operands];exact⟨i,F⟩
 | buildSlice t l Q=>
  refine nK<|b2g z.toPOK _ _ λp I=>?_;obtain⟨q,F,rfl⟩:=iT.1 I;obtain⟨i,x⟩:=q
  exact j x<|by simp[Op.operands];exact⟨i,F⟩
 | load t a=>exact nK (c1P _ (j a<|kN))
 | store t a x=>exact YX (b8s _ (j a<|kN) (j x kN))
 | nilCheck x=>
  have h:=j x kN;dsimp only;generalize ρ x=v at h
  cases h with
  | kK=>exact D9 z.toPOK _
  | nilIface=>exact D9 z.toPOK _
  | nilFunc=>exact D9 z.toPOK _
  | func M f c W B D=>
   cases W with
   | method n K=>
    dsimp only;split
    exact D9 z.toPOK _
    rename_i e;refine aA G7 λp _=>aA (b6h _ _ _ (VP.kS (AP.get B e)).2) λr _=>?_;exact Q9 _ (GX _ _ trivial) (aS (.value _ (.func _ _ _ (.method n K) B D)))
    exact aS (.value _ (.func _ _ _ (.method n K) B D))
   | func g U=>exact aS (.value _ (.func _ _ _ (.func g U) B D))
   | yield l O=>exact aS (.value _ (.func _ _ _ (.yield l O) B D))
  | _=>exact aS (.value _<|Vz)
 | binOp E t x y u=>exact nK (aA (b8z _ _ _ _ (j x<|kN) (j y<|kN)) λ_ _=>c5B z.toPOK _ _ (j x<|kN) (j y<|kN))
 | unOp E t x=>exact nK<|c5A _ _
 | convert s d x=>exact nK (b8B _ _ (j x<|kN))
 | makeInterface t x=>exact nK (a8x _ A (j x<|kN))
 | makeFunc M f c=>
  refine nK<|b6b A (λv h=>?_) (λv h=>?_)
  obtain⟨x,H,rfl⟩:=iT.1 h;exact j x<|by simp[Op.operands,H]
  obtain⟨x,H,rfl⟩:=iT.1 h;exact j x<|by simp[Op.operands,H]
 | makeMap t r=>exact nK<|b8w _ _
 | makeSlice t l c=>exact nK<|b4I z.toPOK _ _ _
 | slice t x l h m=>exact nK (b8v z.toPOK _ (j x<|kN) _ _ _)
 | fieldAddr s x f=>exact nK (b8t _ (j x<|kN) _)
 | field t x f=>exact nK (c5y _ (j x<|kN) _)
 | indexAddr t x i=>exact nK (b8u z.toPOK _ (j x<|kN) _)
 | index t x i=>exact nK (c5z z.toPOK _ (j x<|kN) _)
 | lookup t x i L=>exact nK (c1S z.toPOK _ (j x<|kN) (j i<|kN) _)
 | mapUpdate t m k x=>exact YX (Re z.toPOK _ (j m<|kN) (j k<|kN) (j x<|kN))
 | insert t m k x=>exact YX (Re z.toPOK _ (j m<|kN) (j k<|kN) (j x<|kN))
 | range t x=>exact nK (c5F _ (j x<|kN))
 | next x s=>exact nK (c7e (j x<|kN) _ _)
 | entry x=>exact nK (c5G (j x<|kN))
 | typeAssert x t u L=>exact nK (b2i z.toPOK (j x<|kN) _ _ _)
 | extract x i=>exact nK (b8x (j x<|kN) _)
 | call c=>exact aA (CL (kT) A _) λd S=>v_ z S
 | panic x=>exact nK<|rf z.toPOK _
 | _=>exact A.elim
end
end Go.Zn
namespace Go.Zn
def tp(w:aB)(τ:Nat->Question->Nat)(p:Nat):World:={w with tape:=τ,drawn:=p}
@[simp] def Md (w:aB) (τ:Nat->Question->Nat) (p:Nat):(tp w τ p).heap=w.heap:=rfl
@[simp] def c5N (w:aB) (τ:Nat->Question->Nat) (p:Nat):(tp w τ p).drawn=p:=rfl
@[simp] def c7q (w:aB) (τ:Nat->Question->Nat) (p:Nat):(tp w τ p).tape = τ:=rfl
@[simp] def Zg (w:aB) (τ τ':Nat->Question->Nat) (p p':Nat):tp (tp w τ p) τ' p'=tp w τ' p':=rfl
def jJ(w:aB):tp w w.tape w.drawn=w:=rfl
def Agree(w:aB)(k:Nat)(τ:Nat->Question->Nat)(p:Nat):Prop:=∀j,j<k->∀q,τ (p+j) q=w.tape (w.drawn+j) q
end Go.Zn
namespace Go
def Result.tp{α:Type}(r:Result α)(τ:Nat->Question->Nat)(p:Nat):Result α:=match r with
 | .ok a u=>.ok a (Zn.tp u τ p)
 | .halt h u=>.halt h (Zn.tp u τ p)
end Go
namespace Go.Zn
variable{u v w:aB}{k m n p:Nat}{τ:Nat->Question->Nat}{α:Type}
structure Asks(w u:World)(k:Nat):Prop where
 drawn:u.drawn=w.drawn+k
 tape:u.tape=w.tape
def Asks.zero(h:u.drawn=w.drawn)(a:u.tape=w.tape):Asks w u 0:=⟨h,a⟩
def Asks.trans{w v u:aB}{k m:Nat}(h:Asks w v k)(a:Asks v u m):Asks w u (k+m):=⟨by rw[a.drawn,h.drawn];omega,a.tape.trans h.tape⟩
def Agree.left(h:Agree w (k+m) τ p):Agree w k τ p:=λj a q=>h j aj q
def Agree.right(h:Agree w (k+m) τ p)(a:Asks w v k):Agree v m τ (p+k):=λj b q=>by rw[a.tape,a.drawn,jV,jV];exact h _ aj q
def c7r(w:aB):∃r,∀τ p,(tp w τ p).sys .env=(r,tp w τ p):=⟨(w.sys .env).1,λτ p=>rfl⟩
def b4O(P:Program)(w:aB)(d:Addr)(u:bT)(a:Addr)(v:aX)(b:Bool)(τ:Nat->Question->Nat)(p:Nat):
 (tp w τ p).viewStore P d u a v b=(w.viewStore P d u a v b).map λx=>(tp x.1 τ p,x.2):=by
 unfold World.viewStore;by_cases h:(!tight P P.depth u)=true
 rw[if_pos h,if_pos h];rfl
 rw[if_neg h,if_neg h];rw[show(tp w τ p).seen P d u a b=w.seen P d u a b from rfl]
 cases w.seen P d u a b with
 | error x=>rfl
 | ok x=>
  let⟨c,e,k,j,f,i⟩:=x;simp only[bind,Except.bind]
  cases v.bytes? with
  | none=>rfl
  | some bytes=>
   dsimp;by_cases g:some bytes.length≠f.bytes?.map (·.length)
   rw[if_pos g,if_pos g];rfl
   rw[if_neg g,if_neg g];split
   rfl
   rfl
def IF(P:Program)(w:aB)(a:Addr)(v:aX)(b:Bool)(τ:Nat->Question->Nat)(p:Nat):
 (tp w τ p).farStore P a v b=(w.farStore P a v b).map λx=>(tp x.1 τ p,x.2):=by
 unfold World.farStore;rw[Md]
 cases w.heap[a.block]? with
 | none=>rfl
 | some o=>
  cases o with
  | view c u=>
   dsimp;rw[b4O]
   cases w.viewStore P c u a v b<;>rfl
  | _=>rfl
section
variable{Z:Zone}{P:Program}
def Fam(P:Program){α:Type}(s:Sem α)(w:aB)(es:Array Event):Prop:=
 ∃k,Asks w (s.runT P w es).1.w k/\∀τ p,Agree w k τ p->s.runT P (tp w τ p) es=((s.runT P w es).1.tp τ (p+k),(s.runT P w es).2)
def Fam.next{s t:Sem α}{es es':Array Event}(h:Fam P t v es')(a:Asks w v m)(e:s.runT P w es=t.runT P v es')(c:∀τ p,Agree w m τ p->s.runT P (tp w τ p) es=t.runT P (tp v τ (p+m)) es'):Fam P s w es:=by
 let⟨k,d,f⟩:=h;refine⟨m+k,?_,λτ p b=>?_⟩
 rw[e];exact a.trans d
 rw[c τ p b.left,e,f τ _<|b.right a,jV]
def Fam.halt{s:Sem α}{es es':Array Event}{h:Halt}(e:s.runT P w es=(.halt h w,es'))(a:∀τ p,s.runT P (tp w τ p) es=(.halt h (tp w τ p),es')):Fam P s w es:=
 ⟨0,by rw[e];exact⟨rfl,rfl⟩,λτ p _=>by rw[a,e];rfl⟩
def Sf.fam(hY:∀b,Z.Y b){Q:α->Prop}{s:Sem α}(h:Sf Z P Q s)(i:WP Z w)(es:Array Event):Fam P s w es:=by
 induction s generalizing w es with
 | halt x=>exact .halt rfl λ_ _=>rfl
 | pure x=>exact⟨0,⟨rfl,rfl⟩,λτ p _=>rfl⟩
 | load m a k f=>
  obtain⟨F,D⟩:=h
  cases z:w.cell? a with
  | some v=>
   exact Fam.next (m:=0) (f v (D v (i.cell F z).1) i (es.push ⟨.cell a,false,m==.atomic⟩)) ⟨rfl,rfl⟩ (by simp only[Sem.runT,z]) λτ p _=>by
    have g:(tp w τ p).cell? a=some v:=z
    simp only[Sem.runT,g];rfl
  | none=>
   have g:∀τ p,(tp w τ p).cell? a=none:=λ_ _=>z
   cases d:w.farLoad P a (m==.atomic) with
   | error x=>
    have t:∀τ p,(tp w τ p).farLoad P a (m==.atomic)=.error x:=λ_ _=>d
    exact .halt (h:=x) (es':=es) (by simp only[Sem.runT,z,d]) λτ p=>by simp only[Sem.runT,g,t]
   | ok r=>
    obtain⟨v,l⟩:=r;have t:∀τ p,(tp w τ p).farLoad P a (m==.atomic)=.ok (v,l):=λ_ _=>d
    exact Fam.next (m:=0) (f v (D v (i.far F d).1) i (es++l.toArray.map (⟨.cell ·,false,m==.atomic⟩))) ⟨rfl,rfl⟩ (by simp only[Sem.runT,z,d]) λτ p _=>by simp only[Sem.runT,g,t];rfl
 | store m a v k f=>
  obtain⟨rfl,F,Y,D⟩:=h
  have j:(∀w es,(Sem.store Mode.plain a v k).runT P w es=(.halt (.stuck "store: not the value of one cell") w,es))\/(∀w es,(Sem.store Mode.plain a v k).runT P w es=match w.cell? a with
   | some _=>if w.frozen? a then(.halt (.unsupported (.unsafePointer "a write to bytes that a string shares")) w,es) else k.runT P (w.setCell a v) (es.push ⟨.cell a,true,Mode.plain==.atomic⟩)
   | none=>match w.farStore P a v (Mode.plain==.atomic) with
    | .ok (w,C)=>k.runT P w (es++C.toArray.map (⟨.cell ·,true,Mode.plain==.atomic⟩))
    | .error h=>(.halt h w,es)):=by
   cases v<;>first|exact .inl λ_ _=>rfl|exact .inr λ_ _=>rfl
  rcases j with j|j
  ·exact .halt (j _ _) λ_ _=>j _ _
  ·cases z:w.cell? a with
   | some y=>
    have g:∀τ p,(tp w τ p).cell? a=some y:=λ_ _=>z;by_cases d:w.frozen? a=true
    ·have t:∀τ p,(tp w τ p).frozen? a=true:=λ_ _=>d;exact .halt (h:=.unsupported (.unsafePointer "a write to bytes that a string shares")) (es':=es) (by rw[j,z];simp only[d,if_true]) λτ p=>by rw[j,g];simp only[t,if_true]
    ·have t:∀τ p,¬(tp w τ p).frozen? a=true:=λ_ _=>d;refine Fam.next (m:=0) (f D (i.setCell (a:=a) Y) (es.push ⟨.cell a,true,Mode.plain==.atomic⟩)) ⟨rfl,rfl⟩ (by rw[j,z];dsimp only;rw[if_neg d]) λτ p _=>?_
     rw[j,g];dsimp only;rw[if_neg (t τ p)];rfl
   | none=>
    have g:∀τ p,(tp w τ p).cell? a=none:=λ_ _=>z
    cases d:w.farStore P a v (Mode.plain==.atomic) with
    | error x=>exact .halt (h:=x) (es':=es) (by rw[j,z];dsimp only;rw[d]) λτ p=>by rw[j,g];dsimp only;rw[IF,d];rfl
    | ok r=>
     obtain⟨T,l⟩:=r;have J:T.drawn=w.drawn/\T.tape=w.tape:=by
      unfold World.farStore at d;split at d
      ·split at d
       ·rename_i L;injection d with d;subst d;rename_i X u _ _;unfold World.viewStore at L;by_cases W:(!tight P P.depth u)=true
        ·rw[if_pos W] at L;cases L
        rw[if_neg W] at L;obtain⟨⟨c,e,I,N,K,R⟩,-,H⟩:=bind_ok L;dsimp only at H;split at H
        case h_2=>cases H
        rename_i bytes _;by_cases V:some bytes.length≠K.bytes?.map (·.length)
        ·rw[if_pos V] at H;cases H
        rw[if_neg V] at H;obtain⟨c',-,M⟩:=bind_ok H;injection M with M;injection M with M h6;subst M;exact⟨rfl,rfl⟩
       ·cases d
      ·cases d
     exact Fam.next (m:=0) (f D (i.Gs F d).1 (es++l.toArray.map (⟨.cell ·,true,Mode.plain==.atomic⟩))) ⟨J.1,J.2⟩ (by rw[j,z];dsimp only;rw[d]) λτ p _=>by rw[j,g];dsimp only;rw[IF,d];rfl
 | new o k f=>exact Fam.next (m:=0) (f _ (h.2 _ (i.fresh _ (ak _) (hY _))) (i.new h.1) es) ⟨rfl,rfl⟩ rfl λτ p _=>rfl
 | shape r k f=>exact Fam.next (m:=0) (f _ (h _) i es) ⟨rfl,rfl⟩ rfl λτ p _=>rfl
 | freeze a n k f=>
  have J:(w.freeze a n).drawn=w.drawn/\(w.freeze a n).tape=w.tape:=by unfold World.freeze;split<;>exact⟨rfl,rfl⟩
  refine Fam.next (m:=0) (f h (i.freeze a n) es) ⟨J.1,J.2⟩ rfl λτ p _=>?_;have:(tp w τ p).freeze a n=tp (w.freeze a n) τ p:=by unfold World.freeze;split<;>rfl
  simp only[Sem.runT,this];rfl
 | frozen a k f=>exact Fam.next (m:=0) (f _ (h _) i es) ⟨rfl,rfl⟩ rfl λτ p _=>rfl
 | getObj r k f=>
  obtain⟨F,D⟩:=h
  cases E:w.heap[r]? with
  | none=>exact .halt (h:=.stuck "getObj: no such block") (es':=es) (by simp only[Sem.runT,E]) λτ p=>by simp only[Sem.runT,Md,E]
  | some o=>
   have G:=i.obj _ _ F E;have B:=f o (D o G) i (es.push ⟨.obj r,false,o.isChan⟩);by_cases A:∃c e I,o=.cells c e I
   ·obtain⟨c,e,I,rfl⟩:=A;exact .halt (h:=.stuck "getObj: a row of cells") (es':=es) (by simp only[Sem.runT,E]) λτ p=>by simp only[Sem.runT,Md,E]
   ·have j:∀τ p,(Sem.getObj r k).runT P (tp w τ p) es=(k o).runT P (tp w τ p) (es.push ⟨.obj r,false,o.isChan⟩):=λτ p=>by simp only[Sem.runT,Md,E];try(cases o<;>first|rfl|exact absurd ⟨_,_,_,rfl⟩ A)
    exact Fam.next (m:=0) B ⟨rfl,rfl⟩ (j w.tape w.drawn) λτ p _=>j τ p
 | setObj r o k f=>
  obtain⟨F,E,D⟩:=h
  cases G:w.heap[r]? with
  | none=>exact .halt (h:=.stuck "setObj: no such block") (es':=es) (by simp only[Sem.runT,G]) λτ p=>by simp only[Sem.runT,Md,G]
  | some q=>
   have B:=f D (i.setObj (r:=r) E) (es.push ⟨.obj r,true,o.isChan⟩);by_cases A:∃c e I,q=.cells c e I
   ·obtain⟨c,e,I,rfl⟩:=A;exact .halt (h:=.stuck "setObj: a row of cells") (es':=es) (by simp only[Sem.runT,G]) λτ p=>by simp only[Sem.runT,Md,G]
   ·have j:∀τ p,(Sem.setObj r o k).runT P (tp w τ p) es=k.runT P (tp {w with heap:=w.heap.setIfInBounds r o} τ p) (es.push ⟨.obj r,true,o.isChan⟩):=λτ p=>by simp only[Sem.runT,Md,G];try(cases q<;>first|rfl|exact absurd ⟨_,_,_,rfl⟩ A)
    exact Fam.next (m:=0) B ⟨rfl,rfl⟩ (j w.tape w.drawn) λτ p _=>j τ p
 | choose q k f=>
  by_cases d:q.forced=true
  ·exact Fam.next (m:=0) (f _ (h 0) i es) ⟨rfl,rfl⟩ (by simp only[Sem.runT,d,if_true]) λτ p _=>by simp only[Sem.runT,d,if_true];rfl
  ·have a1:Asks w {w with drawn:=w.drawn+1} 1:=⟨rfl,rfl⟩;refine Fam.next (f (q.cut (w.tape w.drawn q)) (h _) (w:={w with drawn:=w.drawn+1}) ⟨i.fresh,i.obj⟩ es) a1 (by simp only[Sem.runT];rw[if_neg d]) λτ p hA=>?_;have O:τ p q=w.tape w.drawn q:=by simpa using hA 0 aj q
   simp only[Sem.runT];rw[if_neg d];simp only[c7q,c5N,O]
   rfl
 | sys c k f=>
  obtain⟨rfl,D⟩:=h;obtain⟨r,S⟩:=c7r w;have O:w.sys .env=(r,w):=S w.tape w.drawn;refine Fam.next (m:=0) (f r (D r) i (es.push ⟨.output,true,false⟩)) ⟨rfl,rfl⟩ (by simp only[Sem.runT,O]) λτ p _=>?_
  simp only[Sem.runT,S];rfl
 | program k f=>exact Fam.next (m:=0) (f P h i es) ⟨rfl,rfl⟩ rfl λτ p _=>rfl
 | mark m k f=>exact Fam.next (m:=0) (f h.2 i (es.push ⟨.mark m,false,true⟩)) ⟨rfl,rfl⟩ rfl λτ p _=>rfl
end
structure Le(Z Z':Zone):Prop where
 F:Z'.F=Z.F
 T:Z'.T=Z.T
 N:Z'.N=Z.N
 D:∀b,Z.D b->Z'.D b
def Le.trans{A B C:Zone}(h:Le A B)(k:Le B C):Le A C:=⟨k.F.trans h.F,k.T.trans h.T,k.N.trans h.N,λb x=>k.D b<|h.D b x⟩
section
variable{Z Z':Zone}(hL:Le Z Z')
include hL
theorem AU.mono{f:Fn}(h:AU Z f):AU Z' f:=by
 cases h with
 | func f h=>exact .func f<|hL.F▸h
 | method n h=>exact .method n<|hL.N▸h
 | yield l h=>exact .yield l<|hL.D _ h
theorem VP.mono{v:aX}(h:VP Z v):VP Z' v:=by
 induction h with
 | bool b=>exact .bool b
 | int k n=>exact .int k n
 | float k n=>exact .float k n
 | complex k n m=>exact .complex k n m
 | string s=>exact .string s
 | kK=>exact .kK
 | ptr a h=>exact .ptr a<|hL.D _ h
 | jv n c=>exact .jv n c
 | slice a n c h=>exact .slice a n c<|hL.D _ h
 | FV=>exact .FV
 | map r h=>exact .map r<|hL.D _ h
 | Ls=>exact .Ls
 | func e f c h l o g i=>exact .func e f c (h.mono hL) g i
 | nilFunc=>exact .nilFunc
 | iface t v j h d=>exact .iface t v (hL.T▸j) d
 | nilIface=>exact .nilIface
 | agg c h d=>exact .agg c d
 | tuple c h d=>exact .tuple c d
theorem AP.mono{c:dU}(h:AP Z c):AP Z' c:=λx a=>(h x a).mono hL
theorem LC.mono{x:Operand}(h:LC Z x):LC Z' x:=by
 cases x with
 | tmp=>trivial
 | const=>exact VP.mono hL h
 | global=>exact hL.D _ h
 | func f=>exact(hL.F▸h:Z'.F f)
theorem MV.mono{o:Op}(h:MV Z o):MV Z' o:=by
 refine⟨?_,λx g=>(h.2 x g).mono hL⟩;have d:=h.1;cases o
 case makeInterface t x=>exact(show Z'.T t by rw[hL.T];exact d)
 case makeFunc i a b=>exact AU.mono hL d
 case call c=>
  refine(show WJ Z' _ from ?_);have f:WJ Z _:=d;generalize c.callee=e at f⊢
  cases e with
  | invoke r n=>exact(show Z'.N n by rw[hL.N];exact f)
  | builtin=>exact f
  | value=>trivial
 all_goals exact d
theorem gV.mono{c:Code}(h:gV Z c):gV Z' c:=by
 induction c with
 | seq a b e d=>exact⟨e h.1,d h.2⟩
 | cond _ a b e d=>exact⟨e h.1,d h.2⟩
 | block _ b g=>exact g h
 | loop b g=>exact g h
 | scope b g=>exact g h
 | region=>exactλo i=>(h o i).mono hL
 | rangeFunc f _ a b e d=>exact⟨h.1.mono hL,e h.2.1,d h.2.2⟩
 | _=>trivial
theorem je.mono{o:Obj}(h:je Z o):je Z' o:=by
 cases h with
 | cells c e i h=>exact .cells _ _ _<|h.mono hL
 | map g d h=>exact .map _ _ λe f=>⟨(h e f).1.mono hL,(h e f).2.mono hL⟩
 | number a l h=>exact .number _ _<|hL.D _ h
 | stringIter=>exact .stringIter _ _
 | sJ=>exact .sJ _ _ _
 | iter m a b c h=>exact .iter _ _ _ _<|hL.D _ h
 | loop r h=>exact .loop _ ⟨h.pending,trivial,h.tmps.mono hL,h.assign.mono hL,h.body.mono hL,hL.D _ h.defers⟩
 | deferred=>exact .deferred
 | taken=>exact .taken
 | view a t h=>exact .view _ _<|hL.D _ h
end
section
variable(Z:Zone)(Sh:Nat->Prop)
def Zf(n:Nat):Zone:={Z with D:=λb=>b<n/\¬Sh b,Y:=λb=>b<n}
def Zi:Zone:={Z with D:=λb=>¬Sh b,Y:=λ_=>True}
structure kH(w:World):Prop where
 obj:∀b o,b<w.heap.size->¬Sh b->w.heap[b]?=some o->je (Zf Z Sh w) o
 sh:∀b,Sh b->b<w.heap.size
 base:∀b,Z.D b->b<w.heap.size/\¬Sh b
end
section
variable{Z:Zone}{Sh:Nat->Prop}{P:Program}
def jE(h:n<=m):Le (Zf Z Sh n) (Zf Z Sh m):=⟨rfl,rfl,rfl,λ_ x=>⟨aF x.1 h,x.2⟩⟩
def ee(n:Nat):Le (Zf Z Sh n) (Zi Z Sh):=⟨rfl,rfl,rfl,λ_ x=>x.2⟩
def kH.le(h:kH Z Sh w):Le Z (Zf Z Sh w):=⟨rfl,rfl,rfl,h.base⟩
def kH.zi(h:kH Z Sh w):WP (Zi Z Sh) w:=by
 refine⟨λb e _ c=>?_,λb o d a=>?_⟩
 have:=h.sh b c;omega
 refine(h.obj b o ?_ d a).mono (ee _);grind
def kH.zf(h:kH Z Sh w)(f:w<=n):WP (Zf Z Sh n) w:=by
 refine⟨λb g c=>⟨c,λd=>?_⟩,λb o e a=>?_⟩
 have:=h.sh b d;omega
 refine(h.obj b o ?_ e.2 a).mono (jE f);grind
def kH.tp(h:kH Z Sh w)(τ:Nat->Question->Nat)(p:Nat):kH Z Sh (tp w τ p):=⟨h.obj,h.sh,h.base⟩
def kH.next(h:kH Z Sh w)(c:w.heap.size<=u)(k:WP (Zf Z Sh u) u):kH Z Sh u:=
 ⟨λb o a d e=>k.obj b o ⟨a,d⟩ e,λb a=>aF (h.sh b a) c,λb a=>⟨aF (h.base b a).1 c,(h.base b a).2⟩⟩
def both{Q:Zone->α->Prop}{s:Sem α}(h:∀i,Le (Zf Z Sh w) i->Sf i P (Q i) s)(d:kH Z Sh w):
 (∃a u es k,Asks w u k/\(∀τ p,Agree w k τ p->s.runT P (tp w τ p) #[]=(.ok a (tp u τ (p+k)),es))/\Q (Zf Z Sh u) a/\kH Z Sh u/\w.heap.size<=u/\∀e∈es,ku (Zf Z Sh u) u e) ∨
 (∃x u es k,Asks w u k/\(∀τ p,Agree w k τ p->s.runT P (tp w τ p) #[]=(.halt x (tp u τ (p+k)),es))/\jg x/\w.heap.size<=u/\kH Z Sh u):=by
 let⟨k,g,f⟩:=(h _<|ee _).fam (λ_=>trivial) d.zi #[];have c:=runT_size P s w #[];have K:=(h _<|jE c).run (d.zf c) #[] (λb t=>t);generalize v:s.runT P w #[]=r at K g f c;let⟨r,es⟩:=r
 cases r with
 | ok a u=>
  let⟨q,l,m,o,n,j⟩:=K;rw[xw] at n;subst n
  exact .inl ⟨a,u,es,k,g,f,q,d.next m l,m,j⟩
 | halt x u=>exact .inr ⟨x,u,es,k,g,f,K.1,c,d.next c K.2⟩
end
end Go.Zn
