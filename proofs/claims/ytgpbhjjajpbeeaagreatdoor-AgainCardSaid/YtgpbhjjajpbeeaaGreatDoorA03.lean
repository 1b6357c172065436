/- A part of what the last file proves. -/
import Derived.Test.YtgpbhjjajpbeeaaGreatDoorA02
import GoSem.Step
import Derived.StepT
import Derived.Laws.Sem
set_option linter.all false
set_option maxHeartbeats 4000000
namespace Go
def Result.w{α:Type}:Result α->World
 | .ok _ u=>u
 | .halt _ u=>u
end Go
namespace Go.Zn
variable{c:dU}{v:aX}{b d g i n:Bool}{α β:Type}{a k:Addr}{w:aB}
structure Zone where
 D:Nat->Prop
 F:FuncId->Prop
 T:TypeId->Prop
 N:String->Prop
 Y:Nat->Prop
variable(Z:Zone)
inductive AU:Fn->Prop
 | func (f:FuncId) (h:Z.F f):AU (.func f)
 | method (n:String) (h:Z.N n):AU (.method n)
 | yield (l:Nat) (h:Z.D l):AU (.yield l)
inductive VP:Value->Prop
 | bool (b:Bool):VP (.bool b)
 | int (k:IntKind) (n:Int):VP (.int k n)
 | float (k:FloatKind) (n:Nat):VP (.float k n)
 | complex (k:FloatKind) (n m:Nat):VP (.complex k n m)
 | string (s:ByteArray):VP (.string s)
 | kK:VP (.pointer none)
 | ptr (a:Addr) (h:Z.D a.block):VP (.pointer (some a))
 | jv (n c:Nat):VP (.slice none n c)
 | slice (a:Addr) (n c:Nat) (h:Z.D a.block):VP (.slice (some a) n c)
 | FV:VP (.map none)
 | map (r:Nat) (h:Z.D r):VP (.map (some r))
 | Ls:VP (.chan none)
 | func (fn:Fn) (f c:Array Value) (h:AU Z fn) (hf:∀x∈f,VP x) (hc:∀x∈c,VP x):VP (.func fn f c)
 | nilFunc:VP .nilFunc
 | iface (t:TypeId) (v:Value) (ht:Z.T t) (h:VP v):VP (.iface t v)
 | nilIface:VP .nilIface
 | agg (c:Array Value) (h:∀x∈c,VP x):VP (.agg c)
 | tuple (c:Array Value) (h:∀x∈c,VP x):VP (.tuple c)
def AP(c:dU):Prop:=∀x∈c,VP Z x
def LP(l:jl):Prop:=∀x∈l,VP Z x
section
variable{Z}
theorem AP.nil:AP Z #[]:=λx h=>fU
abbrev kU:=@AP.nil
theorem AP.push(h:AP Z c)(b:VP Z v):AP Z (c.push v):=λx a=>by
 obtain a|rfl:=NU.1 a
 exact h x a
 trivial
theorem AP.one(a:VP Z v):AP Z #[v]:=AP.nil.push a
theorem AP.append{d:dU}(h:AP Z c)(k:AP Z d):AP Z (c++d):=λx a=>(dW.1 a).elim (h x) (k x)
theorem AP.get(h:AP Z c){i:Nat}(e:c[i]?=some v):VP Z v:=h v fU
theorem AP.set(h:AP Z c)(i:Nat)(b:VP Z v):AP Z (c.setIfInBounds i v):=λx d=>by
 let⟨j,a⟩:=iQ.1 d;rw[gJ] at a;split at a
 grind
 exact h.get a
theorem AP.extract(h:AP Z c)(i j:Nat):AP Z (c.extract i j):=λx b=>by
 let⟨k,a⟩:=iQ.1 b;rw[Array.getElem?_extract] at a;split at a
 exact h.get a
 trivial
theorem AP.replicate(n:Nat)(a:VP Z v):AP Z (Array.replicate n v):=λx b=>by grind
theorem AP.getD(h:AP Z c)(i:Nat)(a:VP Z v):VP Z (c.getD i v):=by
 rw[aV]
 cases e:c[i]? with
 | none=>exact a
 | some=>exact h.get e
theorem AP.list(h:AP Z c):LP Z c.toList:=λx a=>h x fU
theorem VP.cells(h:VP Z v):AP Z v.cells:=by
 cases h with
 | agg c a=>exact a
 | _=>exact .one Vz
end
def LC:Operand->Prop
 | .tmp _=>True
 | .const v=>VP Z v
 | .global g=>Z.D g
 | .func f=>Z.F f
def Zb:Builtin->Bool
 | .append|.cap|.copy|.delete|.len|.max|.min|.unsafeSliceData|.unsafeString|.unsafeStringData|.panic=>true
 | _=>false
def WJ:Callee->Prop
 | .invoke _ n=>Z.N n
 | .builtin b=>Zb b=true
 | .value _=>True
def OpK:Op->Prop
 | .makeInterface t _=>Z.T t
 | .makeFunc a _ _=>AU Z a
 | .call c=>WJ Z c.callee
 | .go _|.defer _|.send .. | .recv .. | .select .. | .makeChan .. | .ready _|.waits _|.mapEntry .. | .entryStore .. | .sliceToArrayPointer ..=>False
 | _=>True
def MV(o:Op):Prop:=OpK Z o/\∀x∈o.operands,LC Z x
def gV:Code->Prop
 | .seq a b=>gV a/\gV b
 | .cond _ a b=>gV a/\gV b
 | .block _ b=>gV b
 | .loop b=>gV b
 | .scope b=>gV b
 | .region _ e _=>∀o∈e,MV Z o.op
 | .rangeFunc f _ c d=>LC Z f/\gV c/\gV d
 | _=>True
def Wh:Code->Prop
 | .ret|.exit _|.goto _=>True
 | _=>False
structure eh(r:Loop):Prop where
 pending:∀c,r.pending=some c->Wh c
 fn:True
 tmps:AP Z r.tmps
 assign:gV Z r.assign
 body:gV Z r.body
 defers:Z.D r.defers
inductive je:Obj->Prop
 | cells (c:Array Value) (e:TypeId) (fr:Nat×Nat) (h:AP Z c):je (.cells c e fr)
 | map (es:Array MapEntry) (clock:Nat) (h:∀e∈es,VP Z e.key/\VP Z e.val):je (.map es clock)
 | number (a:Addr) (lost:Bool) (h:Z.D a.block):je (.number a lost)
 | stringIter (s:ByteArray) (pos:Nat):je (.stringIter s pos)
 | sJ (since:Nat) (seen:Array Nat) (stepped:Nat):je (.mapIter none since seen stepped)
 | iter (m since:Nat) (seen:Array Nat) (stepped:Nat) (h:Z.D m):je (.mapIter (some m) since seen stepped)
 | loop (r:Loop) (h:eh Z r):je (.loop r)
 | deferred:je (.deferred (some []))
 | taken:je (.deferred none)
 | view (a:Addr) (t:TypeId) (h:Z.D a.block):je (.view a t)
def iG:Mark->Prop
 | .extern _=>True
 | .noRoom=>True
 | _=>False
def jg:Halt->Prop
 | .unsupported (.initOrder _)=>False
 | .unsupported _=>True
 | .stuck _=>True
 | .panic _=>True
 | _=>False
def Sf(P:Program){α:Type}(Q:α->Prop):Sem α->Prop
 | .halt h=>jg h
 | .pure a=>Q a
 | .load _ a k=>Z.D a.block/\∀v,VP Z v->Sf P Q (k v)
 | .store m a v k=>m=.plain/\Z.D a.block/\VP Z v/\Sf P Q k
 | .new o k=>je Z o/\∀r,Z.D r->Sf P Q (k r)
 | .shape _ k=>∀s,Sf P Q (k s)
 | .freeze _ _ k=>Sf P Q k
 | .frozen _ k=>∀b,Sf P Q (k b)
 | .getObj r k=>Z.D r/\∀o,je Z o->Sf P Q (k o)
 | .setObj r o k=>Z.D r/\je Z o/\Sf P Q k
 | .choose _ k=>∀n,Sf P Q (k n)
 | .sys c k=>c=.env/\∀r,Sf P Q (k r)
 | .program k=>Sf P Q (k P)
 | .mark m k=>iG m/\Sf P Q k
section
variable{Z}{P:Program}
theorem Sf.bind{α β:Type}{R:α->Prop}{Q:β->Prop}{s:Sem α}{f:α->Sem β}(h:Sf Z P R s)(e:∀a,R a->Sf Z P Q (f a)):Sf Z P Q (s >>= f):=by
 induction s with
 | halt=>exact h
 | pure=>exact e _ h
 | load m a k d=>exact⟨h.1,λv g=>d v (h.2 v g)⟩
 | store m a v k d=>exact⟨h.1,h.2.1,h.2.2.1,d h.2.2.2⟩
 | new o k d=>exact⟨h.1,λr j=>d r (h.2 r j)⟩
 | shape r k d=>exactλs=>d s (h s)
 | freeze a n k d=>exact d h
 | frozen a k d=>exactλb=>d b (h b)
 | getObj r k d=>exact⟨h.1,λo i=>d o (h.2 o i)⟩
 | setObj r o k d=>exact⟨h.1,h.2.1,d h.2.2⟩
 | choose q k d=>exactλn=>d n (h n)
 | sys c k d=>exact⟨h.1,λr=>d r (h.2 r)⟩
 | program k d=>exact d P h
 | mark m k d=>exact⟨h.1,d h.2⟩
abbrev aA:=@Sf.bind
theorem Sf.mono{R Q:α->Prop}{s:Sem α}(h:Sf Z P R s)(g:∀a,R a->Q a):Sf Z P Q s:=by
 induction s with
 | halt=>exact h
 | pure=>exact g _ h
 | load m a k d=>exact⟨h.1,λv f=>d v (h.2 v f)⟩
 | store m a v k d=>exact⟨h.1,h.2.1,h.2.2.1,d h.2.2.2⟩
 | new o k d=>exact⟨h.1,λr i=>d r (h.2 r i)⟩
 | shape r k d=>exactλs=>d s (h s)
 | freeze a n k d=>exact d h
 | frozen a k d=>exactλb=>d b (h b)
 | getObj r k d=>exact⟨h.1,λo e=>d o (h.2 o e)⟩
 | setObj r o k d=>exact⟨h.1,h.2.1,d h.2.2⟩
 | choose q k d=>exactλn=>d n (h n)
 | sys c k d=>exact⟨h.1,λr=>d r (h.2 r)⟩
 | program k d=>exact d P h
 | mark m k d=>exact⟨h.1,d h.2⟩
theorem Sf.pure{α:Type}{Q:α->Prop}{a:α}(h:Q a):Sf Z P Q (Pure.pure a):=h
abbrev aS:=@Sf.pure
end
structure WP(w:World):Prop where
 fresh:∀b,w.heap.size<=b->Z.Y b->Z.D b
 obj:∀b o,Z.D b->w.heap[b]?=some o->je Z o
def ku(B:Nat)(e:Event):Prop:=
 match e.loc with
 | .cell a=>(e.write=true->e.sync=false)/\Z.D a.block/\a.block<B
 | .obj r=>e.sync=false/\Z.D r/\r<B
 | .mark m=>iG m
 | .output=>e.sync=false
 | .goroutines=>False
section
variable{Z}{P:Program}
theorem ku.mono{B a:Nat}(b:B<=a){e:Event}(h:ku Z B e):ku Z a e:=by unfold ku at *;grind
theorem WP.cell(h:WP Z w)(i:Z.D a.block)(b:w.cell? a=some v):VP Z v/\a.block<w.heap.size:=by
 unfold World.cell? at b
 cases d:w.heap[a.block]? with
 | none=>grind
 | some=>
  rw[d] at b
  cases h.obj _ _ i d with
  | cells c e k j=>
   dsimp at b;split at b
   cases b
   ·exact⟨j.get b,by
   obtain h|h:=bH _ _
   exact h
   grind⟩
  | _=>cases b
theorem WP.modify{u:aB}(h:WP Z w)(r:Nat)(f:u.heap.size=w)(d:∀b,b≠r->u.heap[b]?=w.heap[b]?)(i:∀o,u.heap[r]?=some o->Z.D r->je Z o):WP Z u:=by
 refine⟨λb a g=>h.fresh b (f▸a) g,λb o c a=>?_⟩;by_cases e:b=r
 grind
 exact h.obj b o c (d b e▸a)
theorem WP.setCell(h:WP Z w)(k:VP Z v):WP Z (w.setCell a v):=by
 refine h.modify a.block IU (λb l=>by simp[World.setCell,bg,dI l]) λo f j=>?_
 cases d:w.heap[a.block]? with
 | none=>simp[World.setCell,bg,d] at f
 | some=>
  simp[World.setCell,bg,d] at f;subst f
  cases h.obj _ _ j d with
  | cells c e m g=>
   refine .cells _ _ _ ?_;split
   exact g
   exact g.set _ k
  | _=>constructor<;>assumption
theorem WP.freeze(h:WP Z w)(a:Addr)(n:Nat):WP Z (w.freeze a n):=by
 unfold World.freeze;split
 exact h
 refine h.modify a.block aZ (λb j=>by simp[bg,dI j]) λo d i=>?_
 cases f:w.heap[a.block]? with
 | none=>simp_all
 | some p=>
  simp[bg,f] at d;subst d
  cases h.obj _ _ i f with
  | _=>constructor<;>assumption
theorem WP.setObj(h:WP Z w){r:Nat}{o:Obj}(d:je Z o):WP Z {w with heap:=w.heap.setIfInBounds r o}:=by
 refine h.modify r aZ (λb e=>by simp[dI e]) λx c f=>?_;by_cases a:r<w
 grind
 grind
theorem WP.new{w:aB}(h:WP Z w){o:Obj}(d:je Z o):WP Z {w with heap:=w.heap.push o}:=by
 refine⟨λb c f=>h.fresh b fU f,λb x g c=>?_⟩;have a:=c;rw[fF] at a;split at a
 grind
 exact h.obj b x g a
theorem UV{u:aX}{a:dV}(h:v.ofBytes a=some u):VP Z u:=by
 unfold Value.ofBytes at h;split at h
 split at h
 injection h with h;subst h;exact .bool _
 injection h with h;subst h;exact .bool _
 trivial
 split at h
 injection h with h;subst h;exact .int _ _
 trivial
 split at h
 injection h with h;subst h;exact .float _ _
 trivial
 split at h
 injection h with h;subst h;exact .complex _ _ _
 trivial
 trivial
theorem bind_ok{ε:Type}{x:Except ε α}{f:α->Except ε β}{b:β}(h:(x >>= f)=.ok b):∃a,x=.ok a/\f a=.ok b:=by
 cases x with
 | error=>cases h
 | ok a=>exact⟨a,rfl,h⟩
theorem b8p{f:Array Value->β->Except String (Array Value)}(g:∀c x d,AP Z c->f c x=.ok d->AP Z d):
 ∀(l:List β)(c d:dU),AP Z c->l.foldlM f c=.ok d->AP Z d:=by
 intro l
 induction l with
 | nil=>intro c d b h;injection h with h;grind
 | cons x l j=>intro c d b h;let⟨a,e,i⟩:=bind_ok h;exact j a d (g c x a b e) i
theorem WI{u:bT}{x:Array Value×TypeId×(Nat×Nat)×Nat×Value×List (Nat×Nat×List UInt8)}(h:w.seen P a u k d=.ok x):
 w.heap[a.block]?=some (.cells x.1 x.2.1 x.2.2.1):=by
 unfold World.seen at h;by_cases q:(k.spot.isSome||a.spot.isSome)=true
 ·rw[if_pos q] at h;cases h
 rw[if_neg q] at h
 cases n:plainCell P P.depth u k.off with
 | none=>rw[n] at h;cases h
 | some f=>
  rw[n] at h
  cases j:f.bytes? with
  | none=>simp only[j] at h;cases h
  | some v=>
   cases l:byteOfCell P P.depth u k.off with
   | none=>simp_all
   | some β=>
    cases m:w.heap[a.block]? with
    | none=>simp_all
    | some o=>
     cases o with
     | cells c e z=>
      simp only[j,l,m] at h;by_cases p:P.cellsOf e=0
      ·simp[p] at h;cases h
      dsimp only[Option.map] at h;rw[if_neg p] at h
      cases g:byteOfCell P P.depth e (a.off%P.cellsOf e) with
      | none=>simp_all
      | some y=>
       rw[g] at h;obtain⟨b,-,h⟩:=bind_ok h
       cases d with
       | false=>injection h with h;subst h;rfl
       | true=>
        match b,h with
        | [],h=>cases h
        | [(i,s,t)],h=>
         by_cases r:(decide (s≠a.off/P.cellsOf e*P.bytesOf e+y + β)||decide (t.length≠v.length))=true
         simp only[r] at h;cases h
         simp only[r] at h;injection h with h;subst h;rfl
        | _::_::_,h=>cases h
     | _=>simp_all
theorem WP.far(z:WP Z w)(C:Z.D a.block){l:List Addr}(h:w.farLoad P a g=.ok (v,l)):VP Z v/\∃b,Z.D b/\b<w.heap.size/\∀x∈l,x.block=b:=by
 unfold World.farLoad at h
 cases n:w.heap[a.block]? with
 | none=>grind
 | some=>
  have k:=z.obj _ _ C n;rw[n] at h
  cases k with
  | view f u A=>
   dsimp at h
   cases i:w.viewLoad P f u a g with
   | error=>grind
   | ok=>
    rw[i] at h;injection h with h;subst h;let⟨⟨c,e,D,p,s,m⟩,B,d⟩:=bind_ok i;have q:=WI B;dsimp at d;split at d
    rename_i E j;injection d with d;injection d with d t;subst d;subst t;refine⟨UV j,f.block,A,?_,?_⟩
    obtain h|h:=bH _ _
    exact h
    grind
    intro x k;obtain⟨y,-,rfl⟩:=aQ.1 k;rfl
    trivial
  | _=>cases h
theorem WP.Gs{w':aB}(t:WP Z w)(Q:Z.D a.block){l:List Addr}(h:w.farStore P a v n=.ok (w',l)):WP Z w'/\w'.heap.size=w/\∃b,Z.D b/\b<w.heap.size/\∀x∈l,x.block=b:=by
 unfold World.farStore at h
 cases z:w.heap[a.block]? with
 | none=>simp_all
 | some o=>
  have f:=t.obj _ _ Q z;rw[z] at h
  cases f with
  | view g u H=>
   dsimp at h
   cases j:w.viewStore P g u a v n with
   | error x=>simp_all
   | ok r=>
    rw[j] at h;injection h with h;subst h;unfold World.viewStore at j;by_cases E:(!tight P P.depth u)=true
    rw[if_pos E] at j;cases j
    rw[if_neg E] at j;let⟨⟨c,e,S,B,q,C⟩,N,k⟩:=bind_ok j;have D:=WI N;dsimp at k;split at k
    case h_2=>cases k
    rename_i bytes J;by_cases G:some bytes.length≠q.bytes?.map (·.length)
    rw[if_pos G] at k;cases k
    rw[if_neg G] at k;let⟨R,L,m⟩:=bind_ok k;injection m with m;injection m with m M;subst m;subst M;refine⟨t.setObj (.cells _ _ _ (by
     refine b8p ?_ _ _ _ (by
     have:=t.obj _ _ H D
     cases this with
     | cells _ _ _ h=>exact h) L;intro d x U K f;split at f
     cases f
     split at f
     cases f
     split at f
     case h_2=>cases f
     split at f
     case h_2=>cases f
     rename_i O p;injection f with f;subst f;exact K.set _ (UV p))),aZ,g.block,H,?_,?_⟩
    obtain h|h:=bH _ _
    exact h
    grind
    intro x f;obtain⟨y,-,rfl⟩:=aQ.1 f
    rfl
  | _=>cases h
theorem World.CU(w:aB)(k:Ask α):(w.ask k).2.heap=w.heap:=by
 induction k generalizing w with
 | done=>rfl
 | ask=>unfold Go.World.ask;grind
theorem World.uj(w:aB)(c:Sys):(w.sys c).2.heap=w.heap:=by have:=World.CU w (Kernel.perform c w.os);unfold Go.World.sys;grind
theorem b2e{P:Program}{w':aB}{l:List Addr}(h:w.farStore P a v i=.ok (w',l)):w'.heap.size=w.heap.size:=by
 unfold World.farStore at h;split at h
 split at h
 rename_i g;injection h with h;subst h;rename_i o u _ _;unfold World.viewStore at g;by_cases n:(!tight P P.depth u)=true
 rw[if_pos n] at g;cases g
 rw[if_neg n] at g;obtain⟨⟨c,e,r,j,f,k⟩,-,b⟩:=bind_ok g;dsimp at b;split at b
 case h_2=>cases b
 rename_i bytes _;by_cases m:some bytes.length≠f.bytes?.map (·.length)
 rw[if_pos m] at b;cases b
 rw[if_neg m] at b;obtain⟨p,-,d⟩:=bind_ok b;injection d with d;injection d with d q;subst d;simp
 trivial
 trivial
theorem runT_size(P:Program)(s:Sem α)(w:aB)(es:Array Event):w.heap.size<=(s.runT P w es).1.w.heap.size:=by
 induction s generalizing w es with
 | halt x=>exact ak _
 | pure x=>exact ak _
 | load m a k b=>
  simp only[Sem.runT];split
  ·exact b _ _ _
  ·split
   ·exact b _ _ _
   ·exact ak _
 | store m a v k b=>
  have f:(Sem.store m a v k).runT P w es=(.halt (.stuck "store: not the value of one cell") w,es)\/(Sem.store m a v k).runT P w es=match w.cell? a with
   | some _=>if w.frozen? a then(.halt (.unsupported (.unsafePointer "a write to bytes that a string shares")) w,es) else k.runT P (w.setCell a v) (es.push ⟨.cell a,true,m==.atomic⟩)
   | none=>match w.farStore P a v (m==.atomic) with
    | .ok (w,d)=>k.runT P w (es++d.toArray.map (⟨.cell ·,true,m==.atomic⟩))
    | .error h=>(.halt h w,es):=by
   cases v<;>first|exact .inl rfl|exact .inr rfl
  rcases f with f|f
  ·rw[f];exact ak _
  rw[f];split
  ·split
   ·exact ak _
   ·refine ay ?_ (b _ _);simp[World.setCell]
  ·split
   ·rename_i g;rw[<-b2e g];exact b _ _
   ·exact ak _
 | new o k b=>exact ay aZ (b _ _ _)
 | shape r k b=>exact b _ _ _
 | freeze a n k b=>
  refine ay ?_ (b _ _)
  unfold World.freeze;split<;>simp
 | frozen a k b=>exact b _ _ _
 | getObj r k b=>
  simp only[Sem.runT];split
  ·exact ak _
  ·exact b _ _ _
  ·exact ak _
 | setObj r o k b=>
  simp only[Sem.runT];split
  ·exact ak _
  ·refine ay ?_ (b _ _);simp
  ·exact ak _
 | choose q k b=>
  simp only[Sem.runT];split
  ·exact b _ _ _
  ·exact b _ {w with drawn:=w.drawn+1} _
 | sys c k b=>
  have:=b (w.sys c).1 (w.sys c).2 (es.push ⟨.output,true,false⟩);rw[World.uj w c] at this
  exact this
 | program k b=>exact b _ _ _
 | mark m k b=>exact b _ _
def Zc{α:Type}(Q:α->Prop)(w:aB)(es:Array Event):Result α×Array Event->Prop
 | (.ok a u,c)=>Q a/\WP Z u/\w.heap.size<=u/\∃b,c=es++b/\∀e∈b,ku Z u e
 | (.halt h u,_)=>jg h/\WP Z u
theorem Zc.step{Q:α->Prop}{v:aB}{es e1:Array Event}{r:Result α×Array Event}(h:Zc (Z:=Z) Q v (es++e1) r)(k:w.heap.size<=v)(j:∀e∈e1,ku Z v e):Zc (Z:=Z) Q w es r:=by
 let⟨r,g⟩:=r
 cases r with
 | halt=>exact h
 | ok=>
  let⟨i,l,d,c,f,m⟩:=h;refine⟨i,l,ay k d,e1++c,fU,λe b=>?_⟩;obtain b|b:=dW.1 b
  exact(j e b).mono d
  grind
def Kept{α:Type}(Q:α->Prop)(w:aB)(es:Array Event)(r:Result α×Array Event):Prop:=(∀b,b<r.1.w.heap.size->Z.Y b)->Zc (Z:=Z) Q w es r
theorem Kept.step{Q:α->Prop}{v:aB}{es e1:Array Event}{r:Result α×Array Event}(h:Kept (Z:=Z) Q v (es++e1) r)(a:w.heap.size<=v)(c:∀e∈e1,ku Z v e):Kept (Z:=Z) Q w es r:=λb=>.step (h b) a c
theorem wt(w:aB)(c:WP Z w)(b:Z.D a.block)(s:String):jg (w.noCell a s):=by
 unfold World.noCell;split
 rename_i h;cases c.obj _ _ b h
 trivial
 trivial
theorem b4H(c:WP Z w)(d:Z.D a.block){h:Halt}(e:w.farLoad P a b=.error h):jg h:=by
 unfold World.farLoad at e;split at e
 split at e
 cases e
 injection e with e;subst e;trivial
 injection e with e;subst e;exact wt w c d _
theorem b2f(c:WP Z w)(d:Z.D a.block){h:Halt}(e:w.farStore P a v b=.error h):jg h:=by
 unfold World.farStore at e;split at e
 split at e
 cases e
 injection e with e;subst e;trivial
 injection e with e;subst e;exact wt w c d _
theorem Sf.run{Q:α->Prop}{s:Sem α}(h:Sf Z P Q s)(hW:WP Z w)(es:Array Event):Kept (Z:=Z) Q w es (s.runT P w es):=by
 induction s generalizing w es with
 | halt x=>exactλ_=>⟨h,hW⟩
 | pure x=>exactλ_=>⟨h,hW,ak _,#[],aZ,aZ⟩
 | load m a k ih=>
  obtain⟨hD,hk⟩:=h
  cases hc:w.cell? a with
  | some v=>
   obtain⟨hv,hlt⟩:=hW.cell hD hc;have:=ih v (hk v hv) hW (es++#[⟨.cell a,false,m==.atomic⟩]);simp only[Sem.runT,hc]
   exact Kept.step this (ak _) (by intro e he;simp at he;subst he;exact⟨(λh=>by cases h),hD,hlt⟩)
  | none=>
   simp only[Sem.runT,hc]
   cases hf:w.farLoad P a (m==.atomic) with
   | error x=>exactλ_=>⟨b4H hW hD hf,hW⟩
   | ok r=>
    obtain⟨v,l⟩:=r;obtain⟨hv,b,hb,hlt,hl⟩:=hW.far hD hf;exact Kept.step (ih v (hk v hv) hW _) (ak _) (by
     intro e he;simp at he;obtain⟨x,hx,rfl⟩:=he
     exact⟨(λh=>by cases h),hl x hx▸hb,hl x hx▸hlt⟩)
 | store m a v k ih=>
  obtain⟨rfl,hD,hv,hk⟩:=h
  have e1:(Sem.store Mode.plain a v k).runT P w es=(.halt (.stuck "store: not the value of one cell") w,es)\/(Sem.store Mode.plain a v k).runT P w es=match w.cell? a with
   | some _=>if w.frozen? a then(.halt (.unsupported (.unsafePointer "a write to bytes that a string shares")) w,es) else k.runT P (w.setCell a v) (es.push ⟨.cell a,true,Mode.plain==.atomic⟩)
   | none=>match w.farStore P a v (Mode.plain==.atomic) with
    | .ok (w,touched)=>k.runT P w (es++touched.toArray.map (⟨.cell ·,true,Mode.plain==.atomic⟩))
    | .error h=>(.halt h w,es):=by
   cases v<;>first|exact .inl rfl|exact .inr rfl
  rcases e1 with e1|e1
  ·rw[e1];exactλ_=>⟨trivial,hW⟩
  rw[e1]
  cases hc:w.cell? a with
  | some y=>
   obtain⟨_,hlt⟩:=hW.cell hD hc;dsimp only;split
   ·exactλ_=>⟨trivial,hW⟩
   ·have:=ih hk (hW.setCell (a:=a) hv) (es++#[⟨.cell a,true,false⟩]);refine Kept.step this IU ?_
    intro e he;simp at he;subst he;exact⟨λ_=>rfl,hD,by simpa [World.setCell] using hlt⟩
  | none=>
   dsimp only
   cases hf:w.farStore P a v (Mode.plain==.atomic) with
   | error x=>exactλ_=>⟨b2f hW hD hf,hW⟩
   | ok r=>
    obtain⟨w',l⟩:=r;obtain⟨hw',hs,b,hb,hlt,hl⟩:=hW.Gs hD hf;exact Kept.step (ih hk hw' _) aj (by
     intro e he;simp at he;obtain⟨x,hx,rfl⟩:=he
     exact⟨λ_=>rfl,hl x hx▸hb,hs▸hl x hx▸hlt⟩)
 | new o k ih=>
  obtain⟨ho,hk⟩:=h;intro hY;have hy:Z.Y w.heap.size:=hY _ (aF aZ (runT_size P (k w) {w with heap:=w.heap.push o} es));revert hY;have:=ih _ (hk _ (hW.fresh _ (ak _) hy)) (hW.new ho) (es++#[]);simp only[Sem.runT];rw[oN] at this;refine Kept.step (e1:=#[]) ?_ (v:={w with heap:=w.heap.push o}) aZ aZ
  simpa using this
 | shape r k ih=>exact ih _ (h _) hW es
 | freeze a n k ih=>
  have:=ih h (hW.freeze a n) es;have hsz:(w.freeze a n).heap.size=w.heap.size:=by unfold World.freeze;split<;>simp
  refine Kept.step (e1:=#[]) (v:=w.freeze a n) ?_ aj aZ
  simpa [Sem.runT] using this
 | frozen a k ih=>exact ih _ (h _) hW es
 | getObj r k ih=>
  obtain⟨hD,hk⟩:=h;simp only[Sem.runT]
  cases ho:w.heap[r]? with
  | none=>exactλ_=>⟨trivial,hW⟩
  | some o=>
   have hx:=hW.obj _ _ hD ho;have hlt:r<w.heap.size:=by
    rcases bH r w with h|h
    ·exact h
    ·rw[h_ h] at ho;cases ho
   have main:=Kept.step (Z:=Z) (w:=w) (es:=es) (e1:=#[⟨.obj r,false,false⟩]) (ih o (hk o hx) hW _) (ak _) (by intro e he;simp at he;subst he;exact⟨rfl,hD,hlt⟩);rw[gu] at main
   cases hx with
   | cells=>exactλ_=>⟨trivial,hW⟩
   | _=>exact main
 | setObj r o k ih=>
  obtain⟨hD,ho,hk⟩:=h;simp only[Sem.runT]
  cases hx:w.heap[r]? with
  | none=>exactλ_=>⟨trivial,hW⟩
  | some p=>
   have hlt:r<w.heap.size:=by
    rcases bH r w with h|h
    ·exact h
    ·rw[h_ h] at hx;cases hx
   have hch:o.isChan=false:=by cases ho<;>rfl
   have main:=Kept.step (Z:=Z) (w:=w) (es:=es) (e1:=#[⟨.obj r,true,false⟩]) (ih hk (hW.setObj (r:=r) ho) _) aZ (by intro e he;simp at he;subst he;exact⟨rfl,hD,by simpa using hlt⟩);rw[gu] at main;rw[hch]
   cases p<;>first|exactλ_=>⟨trivial,hW⟩|exact main
 | choose q k ih=>
  simp only[Sem.runT];split
  ·exact ih _ (h _) hW es
  ·have:=ih _ (h (q.cut (w.tape w.drawn q))) (w:={w with drawn:=w.drawn+1}) ⟨hW.fresh,hW.obj⟩ (es++#[]);refine Kept.step (e1:=#[]) (v:={w with drawn:=w.drawn+1}) ?_ aZ aZ
   simpa using this
 | sys c k ih=>
  simp only[Sem.runT];have hh:=World.uj w c;have:=ih _ (h.2 (w.sys c).1) (w:=(w.sys c).2) ⟨λb hb hy=>hW.fresh b (by rw[hh] at hb;exact hb) hy,λb o hD hb=>hW.obj b o hD (by rw[hh] at hb;exact hb)⟩ (es++#[⟨.output,true,false⟩]);rw[gu] at this;refine Kept.step (e1:=#[⟨.output,true,false⟩]) (v:=(w.sys c).2) ?_ (by rw[hh];exact ak _) (by intro e he;simp at he;subst he;rfl)
  rw[gu];exact this
 | program k ih=>exact ih P h hW es
 | mark m k ih=>have:=ih h.2 hW (es++#[⟨.mark m,false,true⟩]);refine Kept.step (e1:=#[⟨.mark m,false,true⟩]) (v:=w) ?_ (ak _) (by intro e he;simp at he;subst he;exact h.1);rw[gu] at this⊢;simpa [Sem.runT] using this
end
end Go.Zn
namespace Go.Zn
variable{α β:Type}{a b:Addr}{v:aX}{o:Obj}{r:Nat}{c:dU}
section
variable{Z:Zone}{P:Program}
structure POK(Z:Zone)(P:Program):Prop where
 zero:∀t i z,P.info? t=some i->i.zero=some z->VP Z z
 handle:Z.D P.globals.size
 methods:∀t i,Z.T t->P.info? t=some i->∀m∈i.methods,Z.N m.name->∀f p,m.func=some (f,p)->Z.F f
def Sf.any{Q:α->Prop}{s:Sem α}(h:Sf Z P Q s):Sf Z P (λ_=>True) s:=h.mono λ_ _=>trivial
def WH(h:Z.D a.block):Sf Z P (VP Z) (load a):=⟨h,λ_ b=>b⟩
def c5q(h:Z.D a.block):Sf Z P (VP Z) (load a .atomic):=⟨h,λ_ b=>b⟩
def c5r(h:Z.D a.block)(b:VP Z v):Sf Z P (λ_=>True) (store a v):=⟨rfl,h,b,trivial⟩
def Z5(h:je Z o):Sf Z P Z.D (newObj o):=⟨h,λ_ a=>a⟩
def yg(r:Nat):Sf Z P (λ_=>True) (shape r):=λ_=>trivial
def bp(a:Addr)(n:Nat):Sf Z P (λ_=>True) (freeze a n):=trivial
def Xe(a:Addr):Sf Z P (λ_=>True) (frozen a):=λ_=>trivial
def U9(h:Z.D r):Sf Z P (je Z) (getObj r):=⟨h,λ_ a=>a⟩
def Dt(h:Z.D r)(a:je Z o):Sf Z P (λ_=>True) (setObj r o):=⟨h,a,trivial⟩
def N7(q:Question):Sf Z P (λ_=>True) (choose q):=λ_=>trivial
def c8Q:Sf Z P (λ_=>True) (sys .env):=⟨rfl,λ_=>trivial⟩
def G7:Sf Z P (λp=>p=P) program:=rfl
def c7d{m:Mark}(h:iG m):Sf Z P (λ_=>True) (mark m):=⟨h,trivial⟩
def o5{Q:α->Prop}(x:String):Sf Z P Q (stuck x:Sem α):=trivial
def J9{Q:α->Prop}(x:Unsupported)(h:jg (.unsupported x)):Sf Z P Q (unsupported x:Sem α):=h
def QB{Q:α->Prop}(x:aX):Sf Z P Q (goPanic x:Sem α):=trivial
def C2(n:Nat):Sf Z P (λ_=>True) (askRoom n):=by
 unfold askRoom;split
 exact c7d trivial
 trivial
def o9(t:bT):Sf Z P (λ_=>True) (underlying t):=by
 refine .bind G7 ?_;rintro _ rfl;split
 exact .pure trivial
 trivial
def I9(t:bT):Sf Z P (λi=>P.info? t=some i) (typeInfo t):=by
 refine .bind G7 ?_;rintro _ rfl;split
 rename_i h;exact .pure h
 trivial
def J6(t:bT):Sf Z P (λ_=>True) (sizeOf t):=.bind (I9 t) λ_ _=>trivial
def un(t:bT):Sf Z P (λ_=>True) (isAgg t):=by refine aA (o9 t) λa _=>?_;split<;>exact .pure trivial
def cg(t:bT):Sf Z P (λ_=>True) (typeStr t):=by
 refine .bind (I9 t) λa _=>?_;simp;split
 exact J9 _ trivial
 trivial
def Js(t:bT):Sf Z P (λ_=>True) (elemOf t):=by
 refine aA (o9 t) λa _=>?_;split
 exact aS trivial
 trivial
def Y1(b:POK Z P)(t:bT):Sf Z P (VP Z) (zeroValue t):=by
 refine aA (I9 t) λi a=>?_;split
 rename_i h;exact .pure<|b.zero _ _ _ a h
 trivial
def add_block(a:Addr)(n:Nat):(a.add n).block=a.block:=YW
def a8u(h:Z.D a.block)(n:Nat):∀(i:Nat)(b:dU),AP Z b->Sf Z P (AP Z) (loadCellsFrom a i n b):=by
 induction n with
 | zero=>intro i b c;trivial
 | succ n e=>intro i b c;unfold loadCellsFrom;exact .bind (WH<|by rw[add_block];exact h) λv d=>e _ _<|c.push d
def cT(h:Z.D a.block)(n:Nat):Sf Z P (AP Z) (loadCells a n):=a8u h n 0 _ .nil
def G1(h:Z.D a.block):∀(l:jl)(i:Nat),LP Z l->Sf Z P (λ_=>True) (storeCells a l i):=by
 intro l
 induction l with
 | nil=>intro i _;trivial
 | cons v l d=>intro i b;unfold storeCells;exact aA (c5r (by rw[add_block];exact h) (b v<|aZ)) λ_ _=>d _ λx c=>b x<|by simp[c]
def Jw(t:bT)(h:Z.D a.block):Sf Z P (VP Z) (loadVar t a):=by
 refine aA (un t) λb _=>?_;split
 exact aA (J6 t) λn _=>aA (cT h _) λc d=>aS<|.agg c d
 exact WH h
def I'(t:bT)(h:Z.D a.block)(b:VP Z v):Sf Z P (λ_=>True) (storeVar t a v):=by
 refine aA (J6 t) λn _=>?_;split
 apply o5
 exact G1 h _ _ b.cells.list
def Ey(t:bT)(h:AP Z c):Sf Z P (λa=>Z.D a.block) (newRow t c):=.bind (Z5<|.cells _ _ _ h) λr b=>.pure b
def Qn(t:bT)(h:VP Z v):Sf Z P (λa=>Z.D a.block) (newVar t v):=Ey t h.cells
def yh(t:bT)(h:AP Z c)(a:Nat):Sf Z P (VP Z) (part t c a):=by
 refine aA (un t) λb _=>?_;split
 exact aA (J6 t) λn _=>aS (.agg _<|h.extract _ _)
 split
 rename_i e;exact aS<|h.get e
 trivial
def c1N(a:POK Z P)(t:bT):VP Z (typeHandle P t):=.ptr _ a.handle
def D9(d:POK Z P){Q:α->Prop}(e:RuntimeError):Sf Z P Q (runtimePanic e:Sem α):=by
 unfold runtimePanic;refine aA G7 ?_;rintro p rfl
 cases e with
 | typeAssertion i c a m=>
  have b:∀o:Option TypeId,VP Z (match o with|some t=>typeHandle p t|none=>.pointer none):=by
   intro o;cases o
   ·exact .kK
   ·exact c1N d _
  refine aA (Js _) λx _=>aA (Qn _ (.agg _ ?_)) λ_ _=>QB _
  exact(((AP.nil.push (b i)).push (b c)).push (b (some a))).push (.string _)
 | panicNil=>exact aA (Js _) λx _=>aA (Qn _ (.agg _ kU)) λ_ _=>QB _
 | _=>exact QB _
def Y7(a:POK Z P){Q:α->Prop}(k:IntKind)(x y:Int)(c:BoundsCode):Sf Z P Q (boundsPanic k x y c:Sem α):=by
 unfold boundsPanic;split
 exact aA (R:=λ_=>True) (aA (N7 _) λ_ _=>.pure trivial) λ_ _=>D9 a _
 trivial
def bX(v:aX):Sf Z P (λ_=>True) (asIntOf v):=by
 unfold asIntOf;split
 exact aS trivial
 exact J9 _ trivial
 trivial
def MB(v:aX):Sf Z P (λ_=>True) (asInt v):=.bind (bX v) λ_ _=>.pure trivial
def bh(v:aX):Sf Z P (λ_=>True) (asBool v):=by
 unfold asBool;split
 exact .pure trivial
 trivial
def c5s(h:VP Z v):Sf Z P (AP Z) (asAgg v):=by cases h<;>trivial
def Qm(b:POK Z P)(h:VP Z v):Sf Z P (λa=>Z.D a.block) (asAddr v):=by cases h<;>trivial
def Xr(h:VP Z v):Sf Z P (λa=>Z.D a.block) (Instr.sureAddr v):=by cases h<;>trivial
def aR(h:Z.D r):Sf Z P (λo=>∀a t,o=some (a,t)->Z.D a.block) (viewAt r):=by
 refine aA (yg r) λs _=>?_;split
 exact aS<|aZ
 refine aA (U9 h) λo b=>?_
 cases b with
 | view=>exact aS<|fU
 | _=>exact aS<|aZ
def I2(h:Z.D r):Sf Z P (λo=>∀a t,o=some (a,t)->Z.D a.block) (numberAt r):=by
 refine aA (yg r) λs _=>?_;split
 exact aS<|aZ
 refine aA (U9 h) λo b=>?_
 cases b with
 | number=>exact aS<|fU
 | _=>exact .pure<|aZ
def I5(h:Z.D a.block):Sf Z P (λp=>Z.D p.1.block) (behindNumber a):=by
 refine .bind (I2 h) λo b=>.pure ?_
 cases o with
 | none=>exact h
 | some=>exact b _ _ rfl
def I1(h:Z.D a.block)(l:Bool):Sf Z P (VP Z) (asNumber a l):=.bind (Z5<|.number _ _ h) λr b=>.pure<|.ptr _ b
def xT(h:Z.D a.block):Sf Z P (λ_=>True) (noView a):=by
 refine .bind (aR h) λs _=>?_;split
 exact J9 _ trivial
 trivial
def IS(a:Addr):Sf Z P (λ_=>True) (markStringish a):=by
 refine aA (yg _) λs _=>?_;split
 apply bp
 trivial
def SU(a:Addr):Sf Z P (λ_=>True) (stringish a):=by
 refine aA (Xe _) λb _=>?_;split
 exact .pure trivial
 refine .bind (yg _) λs _=>?_;split
 apply Xe
 trivial
def b59(a b:Addr):Sf Z P (λ_=>True) (mayBeOne a b):=by refine aA (SU _) λ_ _=>aA (SU _) λ_ _=>?_;dsimp;exact aA (R:=λ_=>True) (aA (yg _) λ_ _=>aS trivial) λ_ _=>aA (R:=λ_=>True) (aA (yg _) λ_ _=>aS trivial) λ_ _=>.pure trivial
def IR(f:Z.D a.block)(e:Z.D b.block):Sf Z P (λ_=>True) (sameAddr a b):=by
 unfold sameAddr;split
 exact aS trivial
 refine aA (Xe _) λ_ _=>aA (Xe _) λ_ _=>?_;split
 exact J9 _ trivial
 refine aA (xT f) λ_ _=>aA (xT e) λ_ _=>aA (b59 _ _) λc _=>?_;exactλx=>by
  split
  exact aA (N7 _) λ_ _=>aS trivial
  trivial c
def b8q(h:Z.D r):Sf Z P (λ_=>True) (cellsIn r):=by
 refine aA (yg r) λs _=>?_;split
 exact aS trivial
 refine aA (U9 h) λo a=>?_;split<;>exact aS trivial
def MK(h:Z.D a.block):Sf Z P (λ_=>True) (byteOf a):=by
 unfold byteOf;split
 exact aS trivial
 apply aA G7;rintro p rfl;refine aA (xT h) λ_ _=>aA (yg _) λs _=>?_;split
 dsimp;split
 exact aS trivial
 split
 exact aS trivial
 trivial
 trivial
def c1O(h:Z.D a.block)(c b:Nat):Sf Z P (λa=>Z.D a.block) (partAt a c b):=by refine aA (MK h) λ_ _=>aA (MK h) λ_ _=>.pure ?_;split<;>exact h
def G0(h:Z.D a.block)(f:Field):Sf Z P (λa=>Z.D a.block) (fieldPlace a f):=by
 refine aA (J6 _) λ_ _=>?_;split
 apply c1O h
 exact .pure<|by rw[add_block];exact h
def GQ(a:Addr)(u:bT)(n:Nat):Sf Z P (λ_=>True) (variablesAt a u n):=by refine aA G7 λ_ _=>aA (yg _) λ_ _=>?_;split<;>exact .pure trivial
def Su(h:Z.D a.block)(n:Nat):∀b,Sf Z P (λ_=>True) (loadBytes a b n):=by
 induction n generalizing a with
 | zero=>intro b;trivial
 | succ n c=>
  intro b;unfold loadBytes;refine aA (WH h) λv _=>?_;split
  apply c kT
  trivial
def qu{β:Type}(I:β->Prop):ForInStep β->Prop
 | .yield b=>I b
 | .done b=>I b
def rh{I:β->Prop}(l:List α){b:β}(a:I b){f:α->β->Sem (ForInStep β)}(h:∀x∈l,∀b,I b->Sf Z P (qu I) (f x b)):Sf Z P I (forIn l b f):=by
 induction l generalizing b with
 | nil=>trivial
 | cons x l e=>
  rw[ru];refine .bind (h x aZ b a) λs c=>?_
  cases s with
  | done=>trivial
  | yield=>exact e c λy d=>h y<|by simp[d]
def Xd{I:β->Prop}(l:Array α){b:β}(a:I b){f:α->β->Sem (ForInStep β)}(h:∀x∈l,∀b,I b->Sf Z P (qu I) (f x b)):Sf Z P I (forIn l b f):=by rw[<-lq];exact rh _ a λx c=>h x<|fU
def xt{I:β->Prop}(r:Std.Legacy.Range){b:β}(c:I b){f:Nat->β->Sem (ForInStep β)}(h:∀x,∀b,I b->Sf Z P (qu I) (f x b)):Sf Z P I (forIn r b f):=by rw[sW];exact rh _ c λx _=>h x
def lw{I:β->Prop}(l:Array α)(f:α->Sem β)(h:∀x∈l,Sf Z P I (f x)):Sf Z P (λr=>∀y∈r,I y) (l.mapM f):=by
 have c:∀l:List α,(∀x∈l,Sf Z P I<|f x)->Sf Z P (λr=>∀y∈r,I y) (l.mapM f):=by
  intro l
  induction l with
  | nil=>intro _;exact aS<|aZ
  | cons x l e=>intro h;rw[oJ];refine aA (h x<|aZ) λy d=>aA (e λz b=>h z<|by simp[b]) λi a=>aS ?_;grind
 rw[jm];refine .bind (c _ λx g=>h x<|fU) λi a=>.pure ?_;grind
end
end Go.Zn
namespace Go.Nm
variable{α β:Type}
section
open Zn (iG jg)
def Nf(P:Program){α:Type}(Q:α->Prop):Sem α->Prop
 | .halt h=>jg h
 | .pure a=>Q a
 | .load _ _ k=>∀v,Nf P Q (k v)
 | .store _ _ _ k=>Nf P Q k
 | .new _ k=>∀r,Nf P Q (k r)
 | .shape _ k=>∀s,Nf P Q (k s)
 | .freeze _ _ k=>Nf P Q k
 | .frozen _ k=>∀b,Nf P Q (k b)
 | .getObj _ k=>∀o,Nf P Q (k o)
 | .setObj _ _ k=>Nf P Q k
 | .choose _ k=>∀n,Nf P Q (k n)
 | .sys c k=>c=.env/\∀r,Nf P Q (k r)
 | .program k=>Nf P Q (k P)
 | .mark m k=>iG m/\Nf P Q k
abbrev Mf(P:Program){α:Type}(s:Sem α):Prop:=Nf P (λ_=>True) s
section
variable{P:Program}
def Nf.bind{α β:Type}{R:α->Prop}{Q:β->Prop}{s:Sem α}{f:α->Sem β}(h:Nf P R s)(e:∀a,R a->Nf P Q (f a)):Nf P Q (s >>= f):=by
 induction s with
 | halt=>exact h
 | pure=>exact e _ h
 | load m a k d=>exactλv=>d v<|h v
 | store m a v k d=>exact d h
 | new o k d=>exactλr=>d r<|h r
 | shape r k d=>exactλs=>d s<|h s
 | freeze a n k d=>exact d h
 | frozen a k d=>exactλb=>d b<|h b
 | getObj r k d=>exactλo=>d o<|h o
 | setObj r o k d=>exact d h
 | choose q k d=>exactλn=>d n<|h n
 | sys c k d=>exact⟨h.1,λr=>d r<|h.2 r⟩
 | program k d=>exact d P h
 | mark m k d=>exact⟨h.1,d h.2⟩
def l7{s:Sem α}{f:α->Sem β}(h:Mf P s)(b:∀a,Mf P (f a)):Mf P (s >>= f):=.bind h λa _=>b a
def o8(a:α):Mf P (Pure.pure a:Sem α):=trivial
def D5(x:String):Mf P (stuck x:Sem α):=trivial
def wR(x:Unsupported)(h:jg (.unsupported x)):Mf P (unsupported x:Sem α):=h
def Hm(x:aX):Mf P (goPanic x:Sem α):=trivial
def V9{f:Program->Sem α}(h:Mf P (f P)):Mf P (program >>= f):=h
def c8w:Mf P (sys .env):=⟨rfl,λ_=>trivial⟩
def c0X:Mf P (mark .noRoom):=⟨trivial,trivial⟩
def O1(c:Prop)[Decidable c]{s t:Sem α}(h:Mf P s)(k:Mf P t):Mf P (if c then s else t):=fU
def rl(l:List α){b:β}{f:α->β->Sem (ForInStep β)}(h:∀x b,Mf P (f x b)):Mf P (forIn l b f):=by
 induction l generalizing b with
 | nil=>trivial
 | cons x l a=>
  rw[ru];refine l7 (h x b) λs=>?_
  cases s with
  | done=>trivial
  | yield=>exact a
def Qr(l:Array α){b:β}{f:α->β->Sem (ForInStep β)}(h:∀x b,Mf P (f x b)):Mf P (forIn l b f):=by rw[<-lq];exact rl _ h
def bB(r:Std.Legacy.Range){b:β}{f:Nat->β->Sem (ForInStep β)}(h:∀x b,Mf P (f x b)):Mf P (forIn r b f):=by rw[sW];exact rl _ h
def c4k(f:α->Sem β)(h:∀x,Mf P (f x)):∀l:List α,Mf P (l.mapM f):=by
 intro l
 induction l with
 | nil=>trivial
 | cons x l a=>rw[oJ];exact l7 (h x) λy=>l7 a λb=>trivial
def oe(l:Array α)(f:α->Sem β)(h:∀x,Mf P (f x)):Mf P (l.mapM f):=by rw[jm];exact l7 (c4k f h _) λa=>trivial
def Cf(f:β->α->Sem β)(h:∀x y,Mf P (f x y)):∀(l:List α)(b:β),Mf P (l.foldlM f b):=by
 intro l
 induction l with
 | nil=>exactλ_=>trivial
 | cons x l a=>intro b;exact l7 (h b x) λy=>a y
end
end
end Go.Nm
namespace Go.Zn
variable{v x y:aX}{c:dU}{a b:Addr}{α β:Type}
section
variable{Z:Zone}{P:Program}
def c5u(e:POK Z P)(t:bT):Sf Z P (VP Z) (Instr.alloc t true (.tuple #[])):=.bind (Y1 e t) λz c=>.bind (Qn _ c) λa d=>.pure<|.ptr _ d
def c8R(t:bT)(h:VP Z v):Sf Z P (VP Z) (Instr.box t v):=.bind (Qn _ h) λa c=>.pure<|.ptr _ c
def c5v(a:Nat)(l:List (Value×Nat))(h:∀x∈l,VP Z x.1):∀c:dU,AP Z c->AP Z (l.foldl (λcs(x:Value×Nat)=>cs.setIfInBounds (a+x.2) x.1) c):=by
 induction l with
 | nil=>simp
 | cons x l d=>intro c b;exact d (λy e=>h y<|by simp[e]) _ (b.set _ (h x<|aZ))
def ZF(b:Nat->Option (Nat×Nat)):∀(l:List (Nat×Value))(c d:dU),(∀x∈l,VP Z x.2)->AP Z c->Instr.fill b c l=some d->AP Z d:=by
 intro l
 induction l with
 | nil=>intro c d _ e h;injection h with h;simp_all
 | cons x l k=>
  intro c d g e h;let⟨i,v⟩:=x;unfold Instr.fill at h;split at h
  cases h
  split at h
  cases h
  refine k _ _ (λy f=>g y<|by simp[f]) ?_ h;rw[<-oM,uT];refine c5v _ _ (λy f=>?_) c e;let⟨m,o⟩:=y;have:=List.mem_zipIdx f;exact (g (i,v) aZ).cells.list m<|this.2.2▸bQ _
def c5w(k:POK Z P)(t:bT){a:Array (Nat×Value)}(h:∀x∈a,VP Z x.2):Sf Z P (VP Z) (Instr.build t a):=by
 refine aA (Y1 k t) λz g=>?_;dsimp;refine aA (o9 t) λd _=>?_;have i:∀x∈a.toList,VP Z x.2:=λx l=>h x iL;split
 refine aA (lw (I:=λ_=>True) _ _ λf _=>aA (J6 _) λ_ _=>aS trivial) λc _=>?_;split
 rename_i e;exact aS (.agg _<|ZF _ _ _ _ i g.cells e)
 trivial
 refine aA (J6 _) λj _=>?_;split
 rename_i e;exact aS (.agg _<|ZF _ _ _ _ i g.cells e)
 trivial
 trivial
def b8r:VP Z (default:aX):=.bool _
def aM(h:AP Z c)(n:Nat):AP Z ((Array.range n).map (c[· % c.size]!)):=by
 intro x b;obtain⟨i,d,rfl⟩:=iT.1 b;by_cases a:i%c.size<c.size
 rw[getElem!_pos c _ a];exact h _<|zQ _
 rw[getElem!_neg c _ a];exact b8r
def b2g(n:POK Z P)(t:bT)(i:Nat){b:Array (Nat×Value)}(h:∀x∈b,VP Z x.2):Sf Z P (VP Z) (Instr.buildSlice t i b):=by
 refine aA (o9 t) λd _=>?_;have j:∀x∈b.toList,VP Z x.2:=λx m=>h x iL;split
 refine aA (J6 _) λk _=>?_;dsimp;split
 exact J9 _ trivial
 split
 refine aA (R:=AP Z) (aS kU) λz f=>?_;split
 rename_i e;exact aA (Ey _ (ZF _ _ _ _ j (aM f _) e)) λa g=>aS<|.slice _ _ _ g
 trivial
 refine aA (Y1 n _) λv l=>aA (aS l.cells) λz f=>?_;split
 rename_i e;exact aA (Ey _<|ZF _ _ _ _ j (aM f _) e) λa g=>aS<|.slice _ _ _ g
 trivial
 trivial
def c1P(t:bT){a:aX}(h:VP Z a):Sf Z P (VP Z) (Instr.loadAt t a):=.bind (Xr h) λ_ c=>Jw t c
def b8s(t:bT){a:aX}(h:VP Z a)(d:VP Z v):Sf Z P (λ_=>True) (Instr.storeAt t a v):=.bind (Xr h) λ_ c=>I' t c d
def b8t(s:bT){a:aX}(h:VP Z a)(f:Nat):Sf Z P (VP Z) (Instr.fieldAt s a f):=by
 refine aA (o9 s) λd _=>?_;split
 split
 exact aA (Xr h) λa e=>aA (G0 e _) λb g=>aS (.ptr _ g)
 trivial
 trivial
def b8u(f:POK Z P)(t:bT)(h:VP Z x)(i:aX):Sf Z P (VP Z) (Instr.indexAt t x i):=by
 unfold Instr.indexAt;refine aA (bX i) λo _=>?_;obtain⟨k,i⟩:=o;dsimp only;refine aA (o9 t) λd _=>?_;split
 refine aA (Xr h) λa j=>aA (R:=λr=>∀a,r.1=some a->Z.D a.block) (aS iL) λr g=>aA (o9 t) λd _=>?_;split
 ·rename_i e;split
  exact aA (J6 _) λn _=>aS (.ptr _ (by rw[add_block];exact g _ e))
  repeat' first|assumption|exact Y7 f _ _ _ _|split
 exact Y7 f _ _ _ _
 refine aA (R:=λr=>∀a,r.1=some a->Z.D a.block) (aS (by
  rename_i l m c
  cases h with
  | jv=>simp
  | slice=>simp_all)) λr g=>aA (o9 t) λd _=>?_
 split
 ·rename_i e;split
  exact aA (J6 _) λn _=>aS (.ptr _ (by rw[add_block];simp_all))
  repeat' first|assumption|exact Y7 f _ _ _ _|split
 exact Y7 f _ _ _ _
 trivial
def b2h(d:POK Z P)(x:aX)(y:Nat)(c:BoundsCode):Sf Z P (λ_=>True) (Instr.sliceBound x y c):=by
 refine .bind (bX x) λb _=>?_;simp;split
 exact .pure trivial
 exact Y7 d _ _ _ _
def c_(e:POK Z P)(s:Bool)(d cap:Nat)(c b max:Option Value):Sf Z P (λ_=>True) (Instr.sliceBounds s d cap c b max):=by
 unfold Instr.sliceBounds;dsimp
 repeat' first
  | with_reducible exact aS trivial
  | with_reducible refine aA (b2h e _ _ _) λ_ _=>?_
  | with_reducible refine aA (R:=λ_=>True) (aS trivial) λ_ _=>?_
  | with_reducible refine aA (R:=λ_=>True) (o5 _) λ_ _=>?_
  | split
def c5x(i:POK Z P)(t:bT)(j:VP Z x)(e c max:Option Value):Sf Z P (VP Z) (Instr.slice t x e c max):=by
 unfold Instr.slice;refine aA (o9 t) λd _=>?_;split
 ·rename_i s;have f:Sf Z P (VP Z) (do let (l,h,_) <-Instr.sliceBounds false s.size s.size e c none;pure (.string (s.extract l h))):=aA (c_ i _ _ _ _ _ _) λr _=>aS (.string _);split
  ·exact o5 _
  ·exact f
 ·refine aA (c_ i _ _ _ _ _ _) λr _=>?_;obtain⟨l,h,m⟩:=r;refine aA (J6 _) λn _=>aS ?_
  cases j with
  | jv=>split<;>exact .jv _ _
  | slice a _ _ g=>
   split
   ·exact .slice _ _ _ g
   ·exact .slice _ _ _ (by rw[add_block];exact g)
 ·refine aA (Qm i j) λa g=>aA (o9 _) λd _=>?_;split
  ·refine aA (c_ i _ _ _ _ _ _) λr _=>?_;obtain⟨l,h,m⟩:=r;refine aA (J6 _) λn _=>aS (.slice _ _ _ ?_);split
   ·exact g
   ·rw[add_block];exact g
  ·exact o5 _
 ·exact o5 _
def b8v(i:POK Z P)(t:bT)(f:VP Z x)(e c max:Option Value):Sf Z P (VP Z) (Instr.sliceAt t x e c max):=by
 refine aA (o9 t) λd _=>?_;split
 refine aA (Xr f) λa g=>aA (c_ i _ _ _ _ _ _) λr _=>?_;refine aA (J6 _) λn _=>aS<|.slice _ _ _ ?_;split
 exact g
 rw[add_block];exact g
 exact c5x i t f _ _ _
def a8x(t:bT)(b:Z.T t)(h:VP Z v):Sf Z P (VP Z) (Instr.makeInterface t v):=by
 refine .bind (o9 t) λd _=>?_;split
 exact o5 _
 exact .pure<|.iface _ _ b h
def b6b{fn:Fn}(d:AU Z fn){a b:dU}(e:AP Z a)(f:AP Z b):Sf Z P (VP Z) (Instr.makeFunc fn a b):=.pure<|.func _ _ _ d e f
def b8w(t:bT)(r:Option Value):Sf Z P (VP Z) (Instr.makeMap t r):=by
 unfold Instr.makeMap;have a:Sf Z P (VP Z) (do pure (.map (some<|<-newObj (.map #[] 0)))):=aA (Z5 (.map _ _<|aZ)) λr c=>aS<|.map _ c;split
 refine aA (o9 t) λd _=>?_;split
 exact .bind (MB _) λ_ _=>a
 trivial
 exact a
def b4I(e:POK Z P)(t:bT)(l c:aX):Sf Z P (VP Z) (Instr.makeSlice t l c):=by
 unfold Instr.makeSlice;refine aA (o9 t) λd _=>?_;split
 ·refine aA (MB _) λh _=>aA (MB _) λj _=>aA (I9 _) λi _=>?_;dsimp only
  repeat' first
   | with_reducible exact aA (Ey _ (aM kT _)) λa k=>aS (.slice _ _ _ k)
   | with_reducible refine aA (R:=λ_=>True) (D9 e _) λ_ _=>?_
   | with_reducible refine aA (N7 _) λ_ _=>?_
   | with_reducible refine aA (C2 _) λ_ _=>?_
   | with_reducible refine aA (J6 _) λ_ _=>?_
   | with_reducible refine aA (Y1 e _) λv g=>aA (R:=AP Z) (aS g.cells) λz f=>?_
   | with_reducible refine aA (R:=AP Z) (aS kU) λz f=>?_
   | split
 ·exact o5 _
def c5y(t:bT)(h:VP Z x)(f:Nat):Sf Z P (VP Z) (Instr.field t x f):=by
 refine aA (o9 t) λd _=>?_;split
 split
 exact aA (c5s h) λc b=>yh _ b _
 trivial
 trivial
def c5z(b:POK Z P)(t:bT)(h:VP Z x)(i:aX):Sf Z P (VP Z) (Instr.index t x i):=by
 refine aA (bX i) λe _=>?_;dsimp;refine aA (o9 t) λd _=>?_;split
 split
 cases h with
 | agg c f=>exact aA (J6 _) λ_ _=>yh _ f _
 exact Y7 b _ _ _ _
 split
 exact aS (.int _ _)
 exact Y7 b _ _ _ _
 trivial
def b8x(h:VP Z x)(i:Nat):Sf Z P (VP Z) (Instr.extract x i):=by
 unfold Instr.extract
 cases h with
 | tuple c b=>
  dsimp;split
  rename_i e;exact .pure<|AP.get b e
  trivial
 | _=>trivial
def rf(b:POK Z P)(x:aX){Q:Value->Prop}:Sf Z P Q (Instr.panic x):=by
 unfold Instr.panic;split
 exact QB _
 refine aA (R:=λ_=>True) ?_ λn _=>?_
 refine aA c8Q λr _=>?_;split
 exact aA G7 λ_ _=>aS trivial
 trivial
 split
 exact QB _
 exact D9 b _
 trivial
def b2i(g:POK Z P)(h:VP Z x)(t u:bT)(e:Bool):Sf Z P (VP Z) (Instr.typeAssert x t u e):=by
 unfold Instr.typeAssert;have f:∀v,VP Z v->Sf Z P (VP Z) (pure (if e then .tuple #[v,.bool true] else v)):=λv c=>by
  split
  exact aS (.tuple _ ((AP.nil.push c).push<|.bool _))
  assumption
 have b:∀s d m,Sf Z P (VP Z) (if e then do pure (.tuple #[<-zeroValue u,.bool false]) else runtimePanic (.typeAssertion s d u m)):=λs d m=>by
  split
  exact aA (Y1 g _) λz j=>aS (.tuple _ ((AP.nil.push j).push<|.bool _))
  exact D9 g _
 dsimp;refine aA (o9 _) λd _=>?_;split
 exact b _ _ _
 refine aA (I9 _) λi _=>?_;split
 exact f _ h
 simp_all
 exact b _ _ _
 split
 cases h<;>grind
 simp_all
 trivial
def IP(op:BinOp)(k:IntKind)(x y:Int):Sf Z P (VP Z) (Op.intArith op k x y):=by unfold Op.intArith;split<;>first|exact .pure (.int _ _)|trivial
def C3(op:BinOp)(k:IntKind)(x y:Int):Sf Z P (VP Z) (Op.intBits op k x y):=by unfold Op.intBits;split<;>first|exact .pure (.int _ _)|trivial
def c1Q(op:BinOp)(x y:Int):Sf Z P (VP Z) (Op.intCmp op x y):=by unfold Op.intCmp;split<;>first|exact .pure (.bool _)|trivial
def c1R(a:POK Z P)(op:BinOp)(k:IntKind)(x y:Int):Sf Z P (VP Z) (Op.intDiv op k x y):=by
 unfold Op.intDiv;split
 exact D9 a _
 split<;>first|exact .pure (.int _ _)|trivial
def re(a:POK Z P)(op:BinOp)(k:IntKind)(x:Int)(k':IntKind)(y:Int):Sf Z P (VP Z) (Op.shift op k x k' y):=by
 unfold Op.shift;split
 exact D9 a _
 split<;>first|exact .pure (.int _ _)|trivial
def Ds(op:BinOp)(x y:ByteArray):Sf Z P (λv=>VP Z v) (Op.stringOp op x y):=by
 unfold Op.stringOp;dsimp;split
 split
 exact J9 _ trivial
 exact aS<|.string _
 all_goals first|exact .pure (.bool _)|trivial
def UT(op:BinOp)(k:FloatKind)(x y:Nat):Sf Z P (VP Z) (Op.floatArith op k x y):=by
 unfold Op.floatArith;dsimp only
 repeat' first
  | with_reducible exact aS (.float _ _)
  | with_reducible refine aA (N7 _) λ_ _=>?_
  | with_reducible refine aA (R:=λ_=>True) (aS trivial) λ_ _=>?_
  | with_reducible refine aA (R:=λ_=>True) (o5 _) λ_ _=>?_
  | split
def IM(op:BinOp)(k:FloatKind)(x y:Nat):Sf Z P (VP Z) (Op.floatCmp op k x y):=by unfold Op.floatCmp;split<;>first|exact .pure (.bool _)|trivial
def b2j(k:FloatKind)(b:Nat)(d:IntKind):Sf Z P (VP Z) (Conv.floatToInt k b d):=by
 unfold Conv.floatToInt;split
 split
 exact .pure<|.int _ _
 exact .bind (N7 _) λ_ _=>.pure<|.int _ _
 exact .bind (N7 _) λ_ _=>.pure<|.int _ _
def ef(k:FloatKind)(b:Nat)(d:FloatKind):Sf Z P (VP Z) (Conv.floatToFloat k b d):=by
 unfold Conv.floatToFloat;split
 exact aS<|.float _ _
 split
 exact aA (N7 _) λ_ _=>aS<|.float _ _
 exact .pure<|.float _ _
 simp;split
 exact .bind (N7 _) λ_ _=>.pure<|.float _ _
 exact .pure<|.float _ _
def Ac(a:FloatKind)(x:Nat)(b:FloatKind):Sf Z P (λ_=>True) (Op.Complex.conv a x b):=by
 unfold Op.Complex.conv;split
 exact aS trivial
 refine .bind (ef _ _ _) λv _=>?_;split
 exact .pure trivial
 trivial
def Xc(op:BinOp)(k:FloatKind)(x y:Nat):Sf Z P (λ_=>True) (Op.Complex.arith op k x y):=by
 refine .bind (UT _ _ _ _) λv _=>?_;split
 exact .pure trivial
 trivial
def WG(op:BinOp)(k:FloatKind)(x y:Nat):Sf Z P (λ_=>True) (Op.Complex.cmp op k x y):=.bind (IM _ _ _ _) λv _=>bh v
def b4J(op:BinOp)(k:FloatKind)(a b c d:Nat):Sf Z P (VP Z) (Op.complexOp op k a b c d):=by
 have A:=λop(x y:Nat)=>Xc (Z:=Z) (P:=P) op .f64 x y;have e:∀x y:Nat,Sf Z P (λ_=>True) (Op.Complex.mul x y)/\Sf Z P (λ_=>True) (Op.Complex.add x y)/\Sf Z P (λ_=>True) (Op.Complex.sub x y)/\Sf Z P (λ_=>True) (Op.Complex.quo x y):=λx y=>⟨A _ _ _,A _ _ _,A _ _ _,A _ _ _⟩;have g:∀a b c d,Sf Z P (λ_=>True) (Op.Complex.product a b c d):=λa b c d=>by unfold Op.Complex.product;exact aA (e _ _).1 λ_ _=>aA (e _ _).1 λ_ _=>aA (e _ _).2.2.1 λ_ _=>aA (e _ _).1 λ_ _=>aA (e _ _).1 λ_ _=>aA (e _ _).2.1 λ_ _=>aS trivial
 have h:∀s a b c d,Sf Z P (λ_=>True) (Op.Complex.corrected s a b c d):=λs a b c d=>by unfold Op.Complex.corrected;exact aA (e _ _).1 λ_ _=>aA (e _ _).1 λ_ _=>aA (e _ _).2.1 λ_ _=>aA (e _ _).1 λ_ _=>aA (e _ _).1 λ_ _=>aA (e _ _).1 λ_ _=>aA (e _ _).2.2.1 λ_ _=>aA (e _ _).1 λ_ _=>aS trivial
 have f:∀a b c d,Sf Z P (λ_=>True) (Op.Complex.quotient a b c d):=λa b c d=>by
  unfold Op.Complex.quotient;dsimp only
  repeat' first
   | with_reducible exact aS trivial
   | with_reducible exact h _ _ _ _ _
   | with_reducible refine aA (WG _ _ _ _) λ_ _=>?_
   | with_reducible refine aA (e _ _).1 λ_ _=>?_
   | with_reducible refine aA (e _ _).2.1 λ_ _=>?_
   | with_reducible refine aA (e _ _).2.2.1 λ_ _=>?_
   | with_reducible refine aA (e _ _).2.2.2 λ_ _=>?_
   | with_reducible refine aA (R:=λ_=>True) (aS trivial) λ_ _=>?_
   | split
 unfold Op.complexOp;split
 ·exact aA (Xc _ _ _ _) λ_ _=>aA (Xc _ _ _ _) λ_ _=>aS (.complex _ _ _)
 ·exact aA (Xc _ _ _ _) λ_ _=>aA (Xc _ _ _ _) λ_ _=>aS (.complex _ _ _)
 ·refine aA (Ac _ _ _) λ_ _=>aA (Ac _ _ _) λ_ _=>aA (Ac _ _ _) λ_ _=>aA (Ac _ _ _) λ_ _=>aA (R:=λ_=>True) ?_ λ_ _=>aA (Ac _ _ _) λ_ _=>aA (Ac _ _ _) λ_ _=>aS (.complex _ _ _);first|exact g _ _ _ _|exact f _ _ _ _
 ·refine aA (Ac _ _ _) λ_ _=>aA (Ac _ _ _) λ_ _=>aA (Ac _ _ _) λ_ _=>aA (Ac _ _ _) λ_ _=>aA (R:=λ_=>True) ?_ λ_ _=>aA (Ac _ _ _) λ_ _=>aA (Ac _ _ _) λ_ _=>aS (.complex _ _ _);first|exact g _ _ _ _|exact f _ _ _ _
 ·exact aA (WG _ _ _ _) λ_ _=>aA (WG _ _ _ _) λ_ _=>aS (.bool _)
 ·exact aA (WG _ _ _ _) λ_ _=>aA (WG _ _ _ _) λ_ _=>aS (.bool _)
 ·exact o5 _
def c5A(op:UnOp)(x:aX):Sf Z P (VP Z) (Op.unary op x):=by
 unfold Op.unary;split
 exact IP _ _ _ _
 exact C3 _ _ _ _
 exact aS (.float _ _)
 exact aS (.complex _ _ _)
 exact aS (.bool _)
 exact J9 _ trivial
 exact J9 _ trivial
 exact o5 _
end
section
variable{Z:Zone}{P:Program}
def GX{Q:β->Prop}(x:Unsupported)(f:α->Sem β)(h:jg (.unsupported x)):Sf Z P Q ((unsupported x:Sem α) >>= f):=h
def Q9{Q:α->Prop}(c:Prop)[Decidable c]{s t:Sem α}(h:Sf Z P Q s)(k:Sf Z P Q t):Sf Z P Q (if c then s else t):=by grind
def b1f{a b:Option Addr}(d:∀x,a=some x->Z.D x.block)(c:∀x,b=some x->Z.D x.block):Sf Z P (λ_=>True) (samePointer a b):=by
 unfold samePointer;split
 exact IR (d _ rfl)<|c _ rfl
 trivial
def VP.iD(h:VP Z (.pointer (some a))):Z.D a.block:=by cases h;trivial
def VP.mP(h:VP Z (.agg c)):AP Z c:=by cases h;trivial
def VP.kS{t:bT}(h:VP Z (.iface t v)):Z.T t/\VP Z v:=by cases h;trivial
def b8y(o:POK Z P):∀(n:Nat)(t:bT)(x y:aX),VP Z x->VP Z y->Sf Z P (λ_=>True) (Op.equalIn n t x y):=by
 intro n
 induction n with
 | zero=>intro t x y _ _;exact J9 _ trivial
 | succ n k=>
  intro t x y g e;unfold Op.equalIn;refine aA (o9 t) λd _=>?_;split
  exact aS trivial
  ·split
   exact aS trivial
   exact o5 _
  exact aS trivial
  exact aS trivial
  ·rename_i a b;refine aA (I5 g.iD) λp l=>aA (I5 e.iD) λq m=>aA G7 λ_ _=>?_;split
   exact aA (MK l) λ_ _=>aA (MK m) λ_ _=>aS trivial
   ·refine aA (I9 _) λi _=>?_;split
    ·split
     exact aS trivial
     exact J9 _ trivial
    exact J9 _ trivial
  exact J9 _ trivial
  exact J9 _ trivial
  ·split
   exact aS trivial
   exact o5 _
  ·split
   exact aS trivial
   exact o5 _
  exact aS trivial
  exact aS trivial
  exact aS trivial
  ·refine aA (J6 _) λ_ _=>?_;split
   exact IR g.iD e.iD
   ·split
    exact aS trivial
    exact aA (N7 _) λ_ _=>aS trivial
  exact b1f (by rintro _ rfl;exact g.iD) (by rintro _ rfl;exact e.iD)
  exact aS trivial
  exact aS trivial
  exact aS trivial
  exact aS trivial
  ·split
   exact aS trivial
   ·refine aA (I9 _) λi _=>?_;dsimp only;split
    ·refine aA G7 λ_ _=>aA G7 λ_ _=>?_;split
     exact J9 _ trivial
     exact aA (cg _) λ_ _=>D9 o _
    exact k _ _ _ g.kS.2 e.kS.2
  ·refine aA G7 λ_ _=>?_;split
   exact J9 _ trivial
   ·refine aA (R:=λ_=>True) (Xd (I:=λ_=>True) _ trivial λf _ b _=>?_) λr _=>?_
    ·split
     refine aA (yh _ g.mP _) λu j=>aA (yh _ e.mP _) λv h=>aA (k _ _ _ j h) λc _=>?_;split<;>exact aS trivial
     exact aS trivial
    dsimp only;split<;>exact aS trivial
  ·refine aA (J6 _) λ_ _=>aA (R:=λ_=>True) (xt (I:=λ_=>True) _ trivial λi b _=>?_) λr _=>?_
   refine aA (yh _ g.mP _) λu j=>aA (yh _ e.mP _) λv h=>aA (k _ _ _ j h) λc _=>?_;split<;>exact aS trivial
   dsimp only;split<;>exact aS trivial
  exact aS trivial
  exact aS trivial
  exact aS trivial
  exact aS trivial
  exact aS trivial
  exact aS trivial
  exact aS trivial
  exact o5 _
def uE(a:POK Z P)(t:bT)(b:VP Z x)(c:VP Z y):Sf Z P (λ_=>True) (Op.equal t x y):=b8y a _ _ _ _ b c
def R':∀(n:Nat)(t:bT)(x y:aX),VP Z x->VP Z y->Sf Z P (λ_=>True) (Op.eqGuardIn n t x y):=by
 intro n
 induction n with
 | zero=>intro t x y _ _;exact J9 _ trivial
 | succ n g=>
  intro t x y h j;unfold Op.eqGuardIn;refine aA (o9 t) λd _=>?_;split
  exact aS trivial
  refine aA (R:=λ_=>True) (Xd _ trivial λf _ b _=>?_) λr _=>?_
  split
  refine aA (yh _ h.mP _) λu a=>aA (yh _ j.mP _) λv e=>aA (g _ _ _ a e) λc _=>?_;split<;>exact aS trivial
  assumption
  dsimp;split<;>exact aS trivial
  refine aA (J6 _) λ_ _=>aA (R:=λ_=>True) (xt _ trivial λi b _=>?_) λr _=>?_
  refine aA (yh _ h.mP _) λu a=>aA (yh _ j.mP _) λv e=>aA (g _ _ _ a e) λc _=>?_;split<;>exact aS trivial
  dsimp;split<;>exact aS trivial
  trivial
def b8z(op:BinOp)(t:bT)(x y:Operand){a b:aX}(e:VP Z a)(d:VP Z b):Sf Z P (λ_=>True) (eqGuard op t x y a b):=by
 unfold eqGuard;apply Q9 _ (aS trivial);split
 apply Q9 _ (aS trivial)
 refine aA (R' _ _ _ _ e d) λc _=>?_;split
 exact J9 _ trivial
 trivial
 refine aA G7 λ_ _=>aA G7 λ_ _=>?_;split
 exact aS trivial
 refine aA (R' _ _ _ _ e d) λc _=>?_;split
 exact J9 _ trivial
 trivial
 trivial
def b2k(ts:Array TypeId)(t:bT){a:Option Addr}(y:aX)(b:VP Z (.pointer a)):Sf Z P (VP Z) (Builtin.unsafeAdd_ ts t #[.pointer a,y]):=by
 unfold Builtin.unsafeAdd_;dsimp;refine aA (MB _) λn _=>?_;split
 split
 refine aA (aR b.iD) λo _=>?_;split
 exact GX _ _ trivial
 trivial
 trivial
 split
 exact GX _ _ trivial
 split
 refine aA (yg _) λs _=>?_;split
 refine aA G7 λp _=>?_;split
 exact aS<|.ptr _ b.iD
 trivial
 trivial
 trivial
def cS(ts:Array TypeId)(t:bT){args:dU}(h:AP Z args):Sf Z P (VP Z) (Builtin.unsafeAdd_ ts t args):=by
 let⟨l⟩:=args;obtain _|⟨x,_|⟨y,_|⟨z,l⟩⟩⟩:=l
 apply o5
 cases x<;>apply o5
 cases x with
 | pointer=>exact b2k ts t y (h _ aZ)
 | _=>trivial
 trivial
def GP(t:bT)(e:VP Z x)(b:VP Z y):Sf Z P (VP Z) (movedNumber t x y):=by
 refine aA (o9 t) λd _=>?_;refine Q9 _ (GX _ _ trivial) ?_
 split
 refine aA (I5 e.iD) λp f=>?_;refine aA (cS _ _ ((AP.nil.push<|.ptr _ f).push b)) λv c=>?_;split
 apply I1 c.iD
 trivial
 exact cS _ _<|(AP.nil.push e).push b
def a9C(t:bT)(a:VP Z x)(b:VP Z y):Sf Z P (VP Z) (movedPointer t x y):=by
 unfold movedPointer;split
 refine aA (I2 a.iD) λo _=>?_;split
 exact J9 _ trivial
 exact cS _ _<|(AP.nil.push a).push b
 exact cS _ _<|(AP.nil.push a).push b
def R1(d:Z.D a.block)(c:Z.D b.block):Sf Z P (λ_=>True) (Op.twoPlaces a b):=by
 refine aA G7 λ_ _=>?_;split
 exact GX _ _ trivial
 exact .bind (MK d) λ_ _=>.bind (MK c) λ_ _=>.pure trivial
def b8A(k:IntKind)(d:Z.D a.block)(c:Z.D b.block):Sf Z P (VP Z) (Op.addrSub k a b):=.bind (R1 d c) λ_ _=>.pure<|.int _ _
def cD(op:BinOp)(d:Z.D a.block)(c:Z.D b.block):Sf Z P (VP Z) (Op.addrCmp op a b):=by refine aA (R1 d c) λr _=>?_;dsimp;split<;>first|exact aS (.bool _)|trivial
def CN(k:IntKind)(b:Z.D a.block)(n:Int):Sf Z P (VP Z) (Op.addrMod k a n):=by
 refine aA (yg _) λs _=>?_;split
 refine aA (I9 _) λi _=>?_;dsimp;split
 exact J9 _ trivial
 exact aA (MK b) λ_ _=>aS<|.int _ _
 trivial
def c5B(e:POK Z P)(op:BinOp)(t:bT)(b:VP Z x)(c:VP Z y):Sf Z P (VP Z) (binOp op t x y):=by
 unfold binOp;split
 exact re e _ _ _ _ _
 exact re e _ _ _ _ _
 ·split
  exact o5 _
  split<;>first|exact IP _ _ _ _|exact c1R e _ _ _ _|exact C3 _ _ _ _|exact c1Q _ _ _
 ·split
  exact o5 _
  split<;>first|exact UT _ _ _ _|exact IM _ _ _ _
 ·split
  exact o5 _
  exact b4J _ _ _ _ _ _
 exact Ds _ _ _
 exact aA (uE e _ b c) λ_ _=>aS (.bool _)
 exact aA (uE e _ b c) λ_ _=>aS (.bool _)
 ·refine aA (o9 _) λ_ _=>?_;split
  exact a9C _ b c
  exact GP _ b c
 exact GP _ c b
 exact GP _ b (.int _ _)
 exact aA (I5 b.iD) λ_ a=>aA (I5 c.iD) λ_ d=>b8A _ a d
 exact aA (I5 b.iD) λ_ a=>aA (I5 c.iD) λ_ d=>cD _ a d
 exact aA (I5 b.iD) λ_ a=>aA (I5 c.iD) λ_ d=>cD _ a d
 exact aA (I5 b.iD) λ_ a=>aA (I5 c.iD) λ_ d=>cD _ a d
 exact aA (I5 b.iD) λ_ a=>aA (I5 c.iD) λ_ d=>cD _ a d
 exact aA (I5 b.iD) λ_ a=>CN _ a _
 exact aA (I5 b.iD) λ_ a=>CN _ a _
 exact aA (I5 c.iD) λ_ a=>CN _ a _
 exact J9 _ trivial
 exact J9 _ trivial
 exact o5 _
def a8y(e:VP Z x):Sf Z P (VP Z) (Conv.bytesToString x):=by
 cases e with
 | jv=>exact aS<|.string _
 | slice a n c f=>
  refine aA (cT f _) λl _=>aA (R:=λ_=>True) (Xd _ trivial λv _ b _=>?_) λr _=>aS<|.string _;split
  exact aS trivial
  trivial
 | _=>trivial
def a8z(e:VP Z x):Sf Z P (VP Z) (Conv.runesToString x):=by
 cases e with
 | jv=>exact aS<|.string _
 | slice a n c f=>
  refine aA (cT f _) λl _=>aA (R:=λ_=>True) (Xd _ trivial λv _ b _=>?_) λr _=>aS<|.string _;split
  exact aS trivial
  trivial
 | _=>trivial
def ux(s:ByteArray):AP Z (s.data.map λb=>.int .u8 b.toNat):=λx a=>by obtain⟨b,_,rfl⟩:=iT.1 a;exact .int _ _
def a8A(e:bT)(s:ByteArray):Sf Z P (VP Z) (Conv.stringToBytes e s):=aA (N7 _) λc _=>aA (Ey _ ((ux s).append (.replicate _<|.int _ _))) λa d=>.bind (IS _) λ_ _=>.pure<|.slice _ _ _ d
def c5C(s:ByteArray):∀(n i:Nat)(a:dU),AP Z a->AP Z (Conv.runesFrom s n i a):=by
 intro n
 induction n with
 | zero=>intro i a h;exact h
 | succ n c=>
  intro i a h;unfold Conv.runesFrom;split
  exact c _ _ (h.push<|.int _ _)
  exact h
def a8B(e:bT)(s:ByteArray):Sf Z P (VP Z) (Conv.stringToRunes e s):=.bind (N7 _) λc _=>.bind (Ey _ ((c5C s _ _ _ .nil).append (.replicate _<|.int _ _))) λa d=>.pure<|.slice _ _ _ d
def we(c:Z.D a.block):Sf Z P (λa=>Z.D a.block) (Conv.seenAt a):=by
 unfold Conv.seenAt;refine aA (aR c) λo e=>?_;split
 rename_i s u;have d:=e _ _ rfl;dsimp;split
 exact aS d
 split
 exact J9 _ trivial
 refine aA G7 λp _=>?_;split
 refine aA (yg _) λq _=>?_;split
 split
 exact J9 _ trivial
 split
 exact aS d
 trivial
 trivial
 trivial
 trivial
def a4d(t u:bT)(f:VP Z x):Sf Z P (VP Z) (Conv.unsafePointer t u x):=by
 unfold Conv.unsafePointer;refine aA (o9 _) λd _=>aA (o9 _) λe _=>?_;split
 exact aS f
 refine aA (we f.iD) λs a=>aA (b8q a) λc _=>aA (J6 _) λn _=>?_;exact Q9 _ (aA (Z5<|.view _ _ a) λr h=>aS<|.ptr _ h) (aS<|.ptr _ a)
 exact aS f
 refine aA (we f.iD) λs a=>aA (J6 _) λn _=>aA (GQ _ _ _) λb _=>?_;split
 exact aS<|.ptr _ a
 refine aA (yg _) λq _=>?_;split
 refine aA G7 λp _=>aA G7 λp _=>?_;split
 exact J9 _ trivial
 exact aA (Z5<|.view _ _ a) λr h=>aS<|.ptr _ h
 assumption
 exact aS f
 exact aS<|.int _ _
 apply I1 f.iD
 exact J9 _ trivial
 exact J9 _ trivial
 exact J9 _ trivial
 trivial
def b8B(t u:bT)(a:VP Z x):Sf Z P (VP Z) (convert t u x):=by
 unfold convert;refine aA (o9 _) λd _=>aA (o9 _) λe _=>?_;split
 exact aS (.int _ _)
 exact aS (.float _ _)
 exact b2j _ _ _
 exact ef _ _ _
 ·unfold Conv.complexToComplex;refine aA (ef _ _ _) λv _=>?_;split
  ·refine aA (ef _ _ _) λv _=>?_;split
   exact aS (.complex _ _ _)
   exact o5 _
  exact o5 _
 exact aS (.string _)
 exact aS a
 refine aA (o9 _) λ_ _=>?_;split
 exact a8A _ _
 exact a8B _ _
 exact o5 _
 refine aA (o9 _) λ_ _=>?_;split
 exact aA (IS _) λ_ _=>aS a
 exact J9 _ trivial
 refine aA (o9 _) λ_ _=>?_;split
 exact a8y a
 exact a8z a
 exact o5 _
 exact a4d _ _ a
 exact a4d _ _ a
 exact J9 _ trivial
 assumption
end
end Go.Zn
