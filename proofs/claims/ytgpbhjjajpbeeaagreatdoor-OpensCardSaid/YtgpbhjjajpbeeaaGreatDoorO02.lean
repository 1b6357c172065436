/- A part of what the last file proves. -/
import Derived.Test.YtgpbhjjajpbeeaaGreatDoorO01
import GoSem.Step
import Derived.StepT
import Derived.Laws.Sem
set_option linter.all false
set_option maxHeartbeats 4000000
namespace Go
def Result.w{α:Type}:Result α->World
 | .ok _ u=>u
 | .halt _ u=>u
end Go
namespace Go.Zn
structure Zone where
 D:Nat->Prop
 F:FuncId->Prop
 T:TypeId->Prop
 N:String->Prop
 Y:Nat->Prop
variable(Z:Zone)
inductive xJ:Fn->Prop
 | func (f:FuncId) (h:Z.F f):xJ (.func f)
 | method (n:String) (h:Z.N n):xJ (.method n)
 | yield (l:Nat) (h:Z.D l):xJ (.yield l)
inductive VP:Value->Prop
 | bool (b:Bool):VP (.bool b)
 | int (k:IntKind) (n:Int):VP (.int k n)
 | float (k:FloatKind) (n:Nat):VP (.float k n)
 | complex (k:FloatKind) (n m:Nat):VP (.complex k n m)
 | string (s:ByteArray):VP (.string s)
 | jc:VP (.pointer none)
 | ptr (a:Addr) (h:Z.D a.block):VP (.pointer (some a))
 | gy (n c:Nat):VP (.slice none n c)
 | slice (a:Addr) (n c:Nat) (h:Z.D a.block):VP (.slice (some a) n c)
 | Bq:VP (.map none)
 | map (r:Nat) (h:Z.D r):VP (.map (some r))
 | Gz:VP (.chan none)
 | func (fn:Fn) (f c:Array Value) (h:xJ Z fn) (hf:∀x∈f,VP x) (hc:∀x∈c,VP x):VP (.func fn f c)
 | nilFunc:VP .nilFunc
 | iface (t:TypeId) (v:Value) (ht:Z.T t) (h:VP v):VP (.iface t v)
 | nilIface:VP .nilIface
 | agg (c:Array Value) (h:∀x∈c,VP x):VP (.agg c)
 | tuple (c:Array Value) (h:∀x∈c,VP x):VP (.tuple c)
def AP(c:Array Value):Prop:=∀x∈c,VP Z x
def LP(l:List Value):Prop:=∀x∈l,VP Z x
section
variable{Z}
theorem AP.nil:AP Z #[]:=λx h=>by simp at h
theorem AP.push{c:Array Value}(h:AP Z c){v:Value}(hv:VP Z v):AP Z (c.push v):=λx hx=>by
 rcases IE.1 hx with hx|rfl
 ·exact h x hx
 ·exact hv
theorem AP.one{v:Value}(hv:VP Z v):AP Z #[v]:=AP.nil.push hv
theorem AP.append{c d:Array Value}(h:AP Z c)(k:AP Z d):AP Z (c++d):=λx hx=>(dh.1 hx).elim (h x) (k x)
theorem AP.get{c:Array Value}(h:AP Z c){i:Nat}{v:Value}(e:c[i]?=some v):VP Z v:=h v (Array.mem_of_getElem? e)
theorem AP.set{c:Array Value}(h:AP Z c)(i:Nat){v:Value}(hv:VP Z v):AP Z (c.setIfInBounds i v):=λx hx=>by
 obtain⟨j,hj⟩:=gB.1 hx;rw[dI] at hj;split at hj
 ·split at hj
  ·injection hj with hj;exact hj▸hv
  ·cases hj
 ·exact h.get hj
theorem AP.extract{c:Array Value}(h:AP Z c)(i j:Nat):AP Z (c.extract i j):=λx hx=>by
 obtain⟨k,hk⟩:=gB.1 hx;rw[Array.getElem?_extract] at hk;split at hk
 ·exact h.get hk
 ·cases hk
theorem AP.replicate(n:Nat){v:Value}(hv:VP Z v):AP Z (Array.replicate n v):=λx hx=>by
 obtain⟨_,rfl⟩:=Array.mem_replicate.1 hx;exact hv
theorem AP.getD{c:Array Value}(h:AP Z c)(i:Nat){v:Value}(hv:VP Z v):VP Z (c.getD i v):=by
 rw[aA]
 cases e:c[i]? with
 | none=>exact hv
 | some x=>exact h.get e
theorem AP.list{c:Array Value}(h:AP Z c):LP Z c.toList:=λx hx=>h x (by simpa using hx)
theorem VP.cells{v:Value}(h:VP Z v):AP Z v.cells:=by
 cases h with
 | agg c hc=>exact hc
 | _=>exact AP.one (by constructor<;>assumption)
end
def GH:Operand->Prop
 | .tmp _=>True
 | .const v=>VP Z v
 | .global g=>Z.D g
 | .func f=>Z.F f
def SY:Builtin->Bool
 | .append|.cap|.copy|.delete|.len|.max|.min|.unsafeSliceData|.unsafeString|.unsafeStringData|.panic=>true
 | _=>false
def JV:Callee->Prop
 | .invoke _ n=>Z.N n
 | .builtin b=>SY b=true
 | .value _=>True
def dp:Op->Prop
 | .makeInterface t _=>Z.T t
 | .makeFunc fn _ _=>xJ Z fn
 | .call c=>JV Z c.callee
 | .go _|.defer _|.send .. | .recv .. | .select .. | .makeChan .. | .ready _|.waits _|.mapEntry .. | .entryStore .. | .sliceToArrayPointer ..=>False
 | _=>True
def ES(o:Op):Prop:=dp Z o/\∀x∈o.operands,GH Z x
def eX:Code->Prop
 | .seq a b=>eX a/\eX b
 | .cond _ a b=>eX a/\eX b
 | .block _ b=>eX b
 | .loop b=>eX b
 | .scope b=>eX b
 | .region _ ops _=>∀o∈ops,ES Z o.op
 | .rangeFunc f _ assign body=>GH Z f/\eX assign/\eX body
 | _=>True
def PU:Code->Prop
 | .ret|.exit _|.goto _=>True
 | _=>False
structure sE(r:Loop):Prop where
 pending:∀c,r.pending=some c->PU c
 fn:True
 tmps:AP Z r.tmps
 assign:eX Z r.assign
 body:eX Z r.body
 defers:Z.D r.defers
inductive fK:Obj->Prop
 | cells (c:Array Value) (e:TypeId) (fr:Nat×Nat) (h:AP Z c):fK (.cells c e fr)
 | map (es:Array MapEntry) (clock:Nat) (h:∀e∈es,VP Z e.key/\VP Z e.val):fK (.map es clock)
 | number (a:Addr) (lost:Bool) (h:Z.D a.block):fK (.number a lost)
 | stringIter (s:ByteArray) (pos:Nat):fK (.stringIter s pos)
 | pK (since:Nat) (seen:Array Nat) (stepped:Nat):fK (.mapIter none since seen stepped)
 | iter (m since:Nat) (seen:Array Nat) (stepped:Nat) (h:Z.D m):fK (.mapIter (some m) since seen stepped)
 | loop (r:Loop) (h:sE Z r):fK (.loop r)
 | deferred:fK (.deferred (some []))
 | taken:fK (.deferred none)
 | view (a:Addr) (t:TypeId) (h:Z.D a.block):fK (.view a t)
def fU:Mark->Prop
 | .extern _=>True
 | .noRoom=>True
 | _=>False
def dV:Halt->Prop
 | .unsupported (.initOrder _)=>False
 | .unsupported _=>True
 | .stuck _=>True
 | .panic _=>True
 | _=>False
def Sf(P:Program){α:Type}(Q:α->Prop):Sem α->Prop
 | .halt h=>dV h
 | .pure a=>Q a
 | .load _ a k=>Z.D a.block/\∀v,VP Z v->Sf P Q (k v)
 | .store m a v k=>m=.plain/\Z.D a.block/\VP Z v/\Sf P Q k
 | .new o k=>fK Z o/\∀r,Z.D r->Sf P Q (k r)
 | .shape _ k=>∀s,Sf P Q (k s)
 | .freeze _ _ k=>Sf P Q k
 | .frozen _ k=>∀b,Sf P Q (k b)
 | .getObj r k=>Z.D r/\∀o,fK Z o->Sf P Q (k o)
 | .setObj r o k=>Z.D r/\fK Z o/\Sf P Q k
 | .choose _ k=>∀n,Sf P Q (k n)
 | .sys c k=>c=.env/\∀r,Sf P Q (k r)
 | .program k=>Sf P Q (k P)
 | .mark m k=>fU m/\Sf P Q k
section
variable{Z}{P:Program}
theorem Sf.bind{α β:Type}{R:α->Prop}{Q:β->Prop}{s:Sem α}{f:α->Sem β}(h:Sf Z P R s)(hf:∀a,R a->Sf Z P Q (f a)):Sf Z P Q (s >>= f):=by
 show Sf Z P Q (s.bind f)
 induction s with
 | halt _=>exact h
 | pure a=>exact hf _ h
 | load m a k ih=>exact⟨h.1,λv hv=>ih v (h.2 v hv)⟩
 | store m a v k ih=>exact⟨h.1,h.2.1,h.2.2.1,ih h.2.2.2⟩
 | new o k ih=>exact⟨h.1,λr hr=>ih r (h.2 r hr)⟩
 | shape r k ih=>exactλs=>ih s (h s)
 | freeze a n k ih=>exact ih h
 | frozen a k ih=>exactλb=>ih b (h b)
 | getObj r k ih=>exact⟨h.1,λo ho=>ih o (h.2 o ho)⟩
 | setObj r o k ih=>exact⟨h.1,h.2.1,ih h.2.2⟩
 | choose q k ih=>exactλn=>ih n (h n)
 | sys c k ih=>exact⟨h.1,λr=>ih r (h.2 r)⟩
 | program k ih=>exact ih P h
 | mark m k ih=>exact⟨h.1,ih h.2⟩
theorem Sf.pure{α:Type}{Q:α->Prop}{a:α}(h:Q a):Sf Z P Q (Pure.pure a):=h
end
structure WP(w:World):Prop where
 fresh:∀b,w.heap.size<=b->Z.Y b->Z.D b
 obj:∀b o,Z.D b->w.heap[b]?=some o->fK Z o
def jd(B:Nat)(e:Event):Prop:=
 match e.loc with
 | .cell a=>(e.write=true->e.sync=false)/\Z.D a.block/\a.block<B
 | .obj r=>e.sync=false/\Z.D r/\r<B
 | .mark m=>fU m
 | .output=>e.sync=false
 | .goroutines=>False
section
variable{Z}{P:Program}
theorem jd.mono{B B':Nat}(hB:B<=B'){e:Event}(h:jd Z B e):jd Z B' e:=by
 unfold jd at *;split at h
 ·exact⟨h.1,h.2.1,ak h.2.2 hB⟩
 ·exact⟨h.1,h.2.1,ak h.2.2 hB⟩
 ·exact h
 ·exact h
 ·exact h.elim
theorem WP.cell{w:World}(h:WP Z w){a:Addr}(hD:Z.D a.block){v:Value}(hv:w.cell? a=some v):VP Z v/\a.block<w.heap.size:=by
 unfold World.cell? at hv
 cases ho:w.heap[a.block]? with
 | none=>rw[ho] at hv;cases hv
 | some o=>
  have hlt:a.block<w.heap.size:=by
   rcases aX a.block w.heap.size with h|h
   ·exact h
   ·rw[aW h] at ho;cases ho
  have hx:=h.obj _ _ hD ho;rw[ho] at hv
  cases hx with
  | cells c e fr hc=>
   dsimp only at hv;split at hv
   ·cases hv
   ·exact⟨hc.get hv,hlt⟩
  | _=>cases hv
theorem WP.modify{w u:World}(h:WP Z w)(r:Nat)(hs:u.heap.size=w.heap.size)(ho:∀b,b≠r->u.heap[b]?=w.heap[b]?)(hr:∀o,u.heap[r]?=some o->Z.D r->fK Z o):WP Z u:=by
 refine⟨λb hb hy=>h.fresh b (hs▸hb) hy,λb o hD hb=>?_⟩;by_cases e:b=r
 ·subst e;exact hr o hb hD
 ·exact h.obj b o hD ((ho b e)▸hb)
theorem WP.setCell{w:World}(h:WP Z w){a:Addr}{v:Value}(hv:VP Z v):WP Z (w.setCell a v):=by
 refine h.modify a.block (by simp[World.setCell]) (λb hb=>by simp[World.setCell,aO,bP hb]) λo ho hD=>?_
 cases hx:w.heap[a.block]? with
 | none=>simp[World.setCell,aO,hx] at ho
 | some p=>
  have hp:=h.obj _ _ hD hx;simp[World.setCell,aO,hx] at ho;subst ho
  cases hp with
  | cells c e fr hc=>
   refine .cells _ _ _ ?_;split
   ·exact hc
   ·exact hc.set _ hv
  | _=>constructor<;>assumption
theorem WP.freeze{w:World}(h:WP Z w)(a:Addr)(n:Nat):WP Z (w.freeze a n):=by
 unfold World.freeze;split
 ·exact h
 refine h.modify a.block (by simp) (λb hb=>by simp[aO,bP hb]) λo ho hD=>?_
 cases hx:w.heap[a.block]? with
 | none=>simp[aO,hx] at ho
 | some p=>
  have hp:=h.obj _ _ hD hx;simp[aO,hx] at ho;subst ho
  cases hp with
  | cells c e fr hc=>exact .cells _ _ _ hc
  | _=>constructor<;>assumption
theorem WP.setObj{w:World}(h:WP Z w){r:Nat}{o:Obj}(ho:fK Z o):WP Z {w with heap:=w.heap.setIfInBounds r o}:=by
 refine h.modify r (by simp) (λb hb=>by simp[bP hb]) λx hx hD=>?_;by_cases hlt:r<w.heap.size
 ·simp[hlt] at hx;exact hx▸ho
 ·simp[hlt] at hx
theorem WP.new{w:World}(h:WP Z w){o:Obj}(ho:fK Z o):WP Z {w with heap:=w.heap.push o}:=by
 refine⟨λb hb hy=>h.fresh b (by simp at hb;omega) hy,λb x hD hb=>?_⟩;have hb':(w.heap.push o)[b]?=some x:=hb;rw[dN] at hb';split at hb'
 ·injection hb' with e;exact e▸ho
 ·exact h.obj b x hD hb'
theorem ZS{v u:Value}{bs:List UInt8}(h:v.ofBytes bs=some u):VP Z u:=by
 unfold Value.ofBytes at h;split at h
 ·split at h
  ·injection h with h;subst h;exact .bool _
  ·injection h with h;subst h;exact .bool _
  ·cases h
 ·split at h
  ·injection h with h;subst h;exact .int _ _
  ·cases h
 ·split at h
  ·injection h with h;subst h;exact .float _ _
  ·cases h
 ·split at h
  ·injection h with h;subst h;exact .complex _ _ _
  ·cases h
 ·cases h
theorem bind_ok{ε α β:Type}{x:Except ε α}{f:α->Except ε β}{b:β}(h:(x >>= f)=.ok b):∃a,x=.ok a/\f a=.ok b:=by
 cases x with
 | error e=>cases h
 | ok a=>exact⟨a,rfl,h⟩
theorem b58{β:Type}{f:Array Value->β->Except String (Array Value)}(hf:∀c x d,AP Z c->f c x=.ok d->AP Z d):
 ∀(l:List β)(c d:Array Value),AP Z c->l.foldlM f c=.ok d->AP Z d:=by
 intro l
 induction l with
 | nil=>intro c d hc h;injection h with h;exact h▸hc
 | cons x l ih=>
  intro c d hc h;rw[zM] at h;obtain⟨a,h1,h2⟩:=bind_ok h;exact ih a d (hf c x a hc h1) h2
theorem Qj{w:World}{a:Addr}{u:TypeId}{k:Addr}{at_:Bool}{x:Array Value×TypeId×(Nat×Nat)×Nat×Value×List (Nat×Nat×List UInt8)}(h:w.seen P a u k at_=.ok x):
 w.heap[a.block]?=some (.cells x.1 x.2.1 x.2.2.1):=by
 unfold World.seen at h;by_cases hs:(k.spot.isSome||a.spot.isSome)=true
 ·rw[if_pos hs] at h;cases h
 rw[if_neg hs] at h
 cases hp:plainCell P P.depth u k.off with
 | none=>rw[hp] at h;cases h
 | some like=>
  rw[hp] at h
  cases hb:like.bytes? with
  | none=>simp only[hb] at h;cases h
  | some bs=>
   cases hc:byteOfCell P P.depth u k.off with
   | none=>simp only[hb,hc] at h;cases h
   | some β=>
    cases ho:w.heap[a.block]? with
    | none=>simp only[hb,hc,ho] at h;cases h
    | some o=>
     cases o with
     | cells c e fr=>
      simp only[hb,hc,ho] at h;by_cases s0:P.cellsOf e=0
      ·simp only[s0] at h;cases h
      ·dsimp only[Option.map] at h;rw[if_neg s0] at h
       cases hb0:byteOfCell P P.depth e (a.off%P.cellsOf e) with
       | none=>rw[hb0] at h;cases h
       | some b0=>
        rw[hb0] at h;obtain⟨cells,-,h⟩:=bind_ok h
        cases at_ with
        | false=>injection h with h;subst h;rfl
        | true=>
         match cells,h with
         | [],h=>cases h
         | [(i,s,b1)],h=>
          by_cases hz:(decide (s≠a.off/P.cellsOf e*P.bytesOf e+b0 + β)||decide (b1.length≠bs.length))=true
          ·simp only[if_true,hz] at h;cases h
          ·simp only[if_true,hz] at h;injection h with h;subst h;rfl
         | _::_::_,h=>cases h
     | _=>simp only[hb,hc,ho] at h;cases h
theorem WP.far{w:World}(hW:WP Z w){a:Addr}(hD:Z.D a.block){at_:Bool}{v:Value}{l:List Addr}(h:w.farLoad P a at_=.ok (v,l)):VP Z v/\∃b,Z.D b/\b<w.heap.size/\∀x∈l,x.block=b:=by
 unfold World.farLoad at h
 cases ho:w.heap[a.block]? with
 | none=>rw[ho] at h;cases h
 | some o=>
  have hx:=hW.obj _ _ hD ho;rw[ho] at h
  cases hx with
  | view at0 u h0=>
   dsimp only at h
   cases hv:w.viewLoad P at0 u a at_ with
   | error x=>rw[hv] at h;cases h
   | ok r=>
    rw[hv] at h;injection h with h;subst h;unfold World.viewLoad at hv;obtain⟨⟨c,e,fr,first,like,cells⟩,h1,h2⟩:=bind_ok hv;have h3:=Qj h1;dsimp only at h2;split at h2
    ·rename_i v1 hv1;injection h2 with h2;injection h2 with h2 h4;subst h2;subst h4;refine⟨ZS hv1,at0.block,h0,?_,?_⟩
     ·rcases aX at0.block w.heap.size with h|h
      ·exact h
      ·rw[aW h] at h3;cases h3
     ·intro x hx;obtain⟨y,-,rfl⟩:=bg.1 hx;rfl
    ·cases h2
  | _=>cases h
theorem WP.BQ{w w':World}(hW:WP Z w){a:Addr}(hD:Z.D a.block){at_:Bool}{v:Value}{l:List Addr}(h:w.farStore P a v at_=.ok (w',l)):WP Z w'/\w'.heap.size=w.heap.size/\∃b,Z.D b/\b<w.heap.size/\∀x∈l,x.block=b:=by
 unfold World.farStore at h
 cases ho:w.heap[a.block]? with
 | none=>rw[ho] at h;cases h
 | some o=>
  have hx:=hW.obj _ _ hD ho;rw[ho] at h
  cases hx with
  | view at0 u h0=>
   dsimp only at h
   cases hv:w.viewStore P at0 u a v at_ with
   | error x=>rw[hv] at h;cases h
   | ok r=>
    rw[hv] at h;injection h with h;subst h;unfold World.viewStore at hv;by_cases ht:(!tight P P.depth u)=true
    ·rw[if_pos ht] at hv;cases hv
    ·rw[if_neg ht] at hv;obtain⟨⟨c,e,fr,first,like,cells⟩,h1,h2⟩:=bind_ok hv;have h3:=Qj h1;dsimp only at h2;split at h2
     case h_2=>cases h2
     rename_i bytes hby;by_cases hl:some bytes.length≠like.bytes?.map (·.length)
     ·rw[if_pos hl] at h2;cases h2
     rw[if_neg hl] at h2;obtain⟨c',h4,h5⟩:=bind_ok h2;injection h5 with h5;injection h5 with h5 h6;subst h5;subst h6;have hc:AP Z c:=by
      have:=hW.obj _ _ h0 h3
      cases this with
      | cells _ _ _ h=>exact h
     have hc':AP Z c':=by
      refine b58 ?_ _ _ _ hc h4;intro d x d' hd hx;obtain⟨i,s,bs⟩:=x;dsimp only at hx;split at hx
      ·cases hx
      split at hx
      ·cases hx
      split at hx
      case h_2=>cases hx
      split at hx
      case h_2=>cases hx
      rename_i new hnew;injection hx with hx;subst hx;exact hd.set _ (ZS hnew)
     refine⟨hW.setObj (.cells _ _ _ hc'),by simp,at0.block,h0,?_,?_⟩
     ·rcases aX at0.block w.heap.size with h|h
      ·exact h
      ·rw[aW h] at h3;cases h3
     ·intro x hx;obtain⟨y,-,rfl⟩:=bg.1 hx
      rfl
  | _=>cases h
theorem World.yV{α:Type}(w:World)(k:Ask α):(w.ask k).2.heap=w.heap:=by
 induction k generalizing w with
 | done a=>rfl
 | ask what range k ih=>
  unfold Go.World.ask;dsimp only;split
  ·exact ih _ _
  ·rw[ih]
theorem World.qW(w:World)(c:Sys):(w.sys c).2.heap=w.heap:=by
 have:=World.yV w (Kernel.perform c w.os);unfold Go.World.sys;split
 ·rfl
 ·rename_i h1;rw[h1] at this;exact this
theorem b0w{P:Program}{w w':World}{a:Addr}{v:Value}{at_:Bool}{l:List Addr}(h:w.farStore P a v at_=.ok (w',l)):w'.heap.size=w.heap.size:=by
 unfold World.farStore at h;split at h
 ·split at h
  ·rename_i h1;injection h with h;subst h;rename_i at0 u _ _;unfold World.viewStore at h1;by_cases ht:(!tight P P.depth u)=true
   ·rw[if_pos ht] at h1;cases h1
   rw[if_neg ht] at h1;obtain⟨⟨c,e,fr,first,like,cells⟩,-,h2⟩:=bind_ok h1;dsimp only at h2;split at h2
   case h_2=>cases h2
   rename_i bytes _;by_cases hl:some bytes.length≠like.bytes?.map (·.length)
   ·rw[if_pos hl] at h2;cases h2
   rw[if_neg hl] at h2;obtain⟨c',-,h5⟩:=bind_ok h2;injection h5 with h5;injection h5 with h5 h6;subst h5;simp
  ·cases h
 ·cases h
theorem runT_size{α:Type}(P:Program)(s:Sem α)(w:World)(es:Array Event):w.heap.size<=(s.runT P w es).1.w.heap.size:=by
 induction s generalizing w es with
 | halt x=>exact aj _
 | pure x=>exact aj _
 | load m a k ih=>
  simp only[Sem.runT];split
  ·exact ih _ _ _
  ·split
   ·exact ih _ _ _
   ·exact aj _
 | store m a v k ih=>
  have e1:(Sem.store m a v k).runT P w es=(.halt (.stuck "store: not the value of one cell") w,es)\/(Sem.store m a v k).runT P w es=match w.cell? a with
   | some _=>if w.frozen? a then(.halt (.unsupported (.unsafePointer "a write to bytes that a string shares")) w,es) else k.runT P (w.setCell a v) (es.push ⟨.cell a,true,m==.atomic⟩)
   | none=>match w.farStore P a v (m==.atomic) with
    | .ok (w,touched)=>k.runT P w (es++touched.toArray.map (⟨.cell ·,true,m==.atomic⟩))
    | .error h=>(.halt h w,es):=by
   cases v<;>first|exact .inl rfl|exact .inr rfl
  rcases e1 with e1|e1
  ·rw[e1];exact aj _
  rw[e1];split
  ·split
   ·exact aj _
   ·refine ay ?_ (ih _ _);simp[World.setCell]
  ·split
   ·rename_i h1;rw[<-b0w h1];exact ih _ _
   ·exact aj _
 | new o k ih=>exact ay (by simp) (ih _ _ _)
 | shape r k ih=>exact ih _ _ _
 | freeze a n k ih=>
  refine ay ?_ (ih _ _)
  unfold World.freeze;split<;>simp
 | frozen a k ih=>exact ih _ _ _
 | getObj r k ih=>
  simp only[Sem.runT];split
  ·exact aj _
  ·exact ih _ _ _
  ·exact aj _
 | setObj r o k ih=>
  simp only[Sem.runT];split
  ·exact aj _
  ·refine ay ?_ (ih _ _);simp
  ·exact aj _
 | choose q k ih=>
  simp only[Sem.runT];split
  ·exact ih _ _ _
  ·exact ih _ {w with drawn:=w.drawn+1} _
 | sys c k ih=>
  have:=ih (w.sys c).1 (w.sys c).2 (es.push ⟨.output,true,false⟩);rw[World.qW w c] at this
  exact this
 | program k ih=>exact ih _ _ _
 | mark m k ih=>exact ih _ _
def PS{α:Type}(Q:α->Prop)(w:World)(es:Array Event):Result α×Array Event->Prop
 | (.ok a u,es')=>Q a/\WP Z u/\w.heap.size<=u.heap.size/\∃new,es'=es++new/\∀e∈new,jd Z u.heap.size e
 | (.halt h u,_)=>dV h/\WP Z u
theorem PS.step{α:Type}{Q:α->Prop}{w v:World}{es e1:Array Event}{r:Result α×Array Event}(h:PS (Z:=Z) Q v (es++e1) r)(hs:w.heap.size<=v.heap.size)(he:∀e∈e1,jd Z v.heap.size e):PS (Z:=Z) Q w es r:=by
 obtain⟨r,es'⟩:=r
 cases r with
 | halt=>exact h
 | ok a u=>
  obtain⟨h1,h2,h3,new,h4,h5⟩:=h;refine⟨h1,h2,ay hs h3,e1++new,by rw[h4,gU],λe hm=>?_⟩;rcases dh.1 hm with hm|hm
  ·exact(he e hm).mono h3
  ·exact h5 e hm
def Kept{α:Type}(Q:α->Prop)(w:World)(es:Array Event)(r:Result α×Array Event):Prop:=(∀b,b<r.1.w.heap.size->Z.Y b)->PS (Z:=Z) Q w es r
theorem Kept.step{α:Type}{Q:α->Prop}{w v:World}{es e1:Array Event}{r:Result α×Array Event}(h:Kept (Z:=Z) Q v (es++e1) r)(hs:w.heap.size<=v.heap.size)(he:∀e∈e1,jd Z v.heap.size e):Kept (Z:=Z) Q w es r:=λhY=>PS.step (h hY) hs he
theorem Ks(w:World)(hW:WP Z w){a:Addr}(hD:Z.D a.block)(s:String):dV (w.noCell a s):=by
 unfold World.noCell;split
 ·rename_i h;cases hW.obj _ _ hD h
 ·trivial
 ·trivial
theorem b2R{w:World}(hW:WP Z w){a:Addr}(hD:Z.D a.block){at_:Bool}{h:Halt}(e:w.farLoad P a at_=.error h):dV h:=by
 unfold World.farLoad at e;split at e
 ·split at e
  ·cases e
  ·injection e with e;subst e;trivial
 ·injection e with e;subst e;exact Ks w hW hD _
theorem b0x{w:World}(hW:WP Z w){a:Addr}(hD:Z.D a.block){at_:Bool}{v:Value}{h:Halt}(e:w.farStore P a v at_=.error h):dV h:=by
 unfold World.farStore at e;split at e
 ·split at e
  ·cases e
  ·injection e with e;subst e;trivial
 ·injection e with e;subst e;exact Ks w hW hD _
theorem Sf.run{α:Type}{Q:α->Prop}{s:Sem α}(h:Sf Z P Q s){w:World}(hW:WP Z w)(es:Array Event):Kept (Z:=Z) Q w es (s.runT P w es):=by
 induction s generalizing w es with
 | halt x=>exactλ_=>⟨h,hW⟩
 | pure x=>exactλ_=>⟨h,hW,aj _,#[],by simp,by simp⟩
 | load m a k ih=>
  obtain⟨hD,hk⟩:=h
  cases hc:w.cell? a with
  | some v=>
   obtain⟨hv,hlt⟩:=hW.cell hD hc;have:=ih v (hk v hv) hW (es++#[⟨.cell a,false,m==.atomic⟩]);simp only[Sem.runT,hc]
   exact Kept.step this (aj _) (by intro e he;simp at he;subst he;exact⟨(λh=>by cases h),hD,hlt⟩)
  | none=>
   simp only[Sem.runT,hc]
   cases hf:w.farLoad P a (m==.atomic) with
   | error x=>exactλ_=>⟨b2R hW hD hf,hW⟩
   | ok r=>
    obtain⟨v,l⟩:=r;obtain⟨hv,b,hb,hlt,hl⟩:=hW.far hD hf;exact Kept.step (ih v (hk v hv) hW _) (aj _) (by
     intro e he;simp at he;obtain⟨x,hx,rfl⟩:=he
     exact⟨(λh=>by cases h),hl x hx▸hb,hl x hx▸hlt⟩)
 | store m a v k ih=>
  obtain⟨rfl,hD,hv,hk⟩:=h
  have e1:(Sem.store Mode.plain a v k).runT P w es=(.halt (.stuck "store: not the value of one cell") w,es)\/(Sem.store Mode.plain a v k).runT P w es=match w.cell? a with
   | some _=>if w.frozen? a then(.halt (.unsupported (.unsafePointer "a write to bytes that a string shares")) w,es) else k.runT P (w.setCell a v) (es.push ⟨.cell a,true,Mode.plain==.atomic⟩)
   | none=>match w.farStore P a v (Mode.plain==.atomic) with
    | .ok (w,touched)=>k.runT P w (es++touched.toArray.map (⟨.cell ·,true,Mode.plain==.atomic⟩))
    | .error h=>(.halt h w,es):=by
   cases v<;>first|exact .inl rfl|exact .inr rfl
  rcases e1 with e1|e1
  ·rw[e1];exactλ_=>⟨trivial,hW⟩
  rw[e1]
  cases hc:w.cell? a with
  | some y=>
   obtain⟨_,hlt⟩:=hW.cell hD hc;dsimp only;split
   ·exactλ_=>⟨trivial,hW⟩
   ·have:=ih hk (hW.setCell (a:=a) hv) (es++#[⟨.cell a,true,false⟩]);refine Kept.step this (by simp[World.setCell]) ?_
    intro e he;simp at he;subst he;exact⟨λ_=>rfl,hD,by simpa [World.setCell] using hlt⟩
  | none=>
   dsimp only
   cases hf:w.farStore P a v (Mode.plain==.atomic) with
   | error x=>exactλ_=>⟨b0x hW hD hf,hW⟩
   | ok r=>
    obtain⟨w',l⟩:=r;obtain⟨hw',hs,b,hb,hlt,hl⟩:=hW.BQ hD hf;exact Kept.step (ih hk hw' _) (by omega) (by
     intro e he;simp at he;obtain⟨x,hx,rfl⟩:=he
     exact⟨λ_=>rfl,hl x hx▸hb,hs▸hl x hx▸hlt⟩)
 | new o k ih=>
  obtain⟨ho,hk⟩:=h;intro hY;have hy:Z.Y w.heap.size:=hY _ (ak (by simp) (runT_size P (k w.heap.size) {w with heap:=w.heap.push o} es));revert hY;have:=ih _ (hk _ (hW.fresh _ (aj _) hy)) (hW.new ho) (es++#[]);simp only[Sem.runT];rw[gQ] at this;refine Kept.step (e1:=#[]) ?_ (v:={w with heap:=w.heap.push o}) (by simp) (by simp)
  simpa using this
 | shape r k ih=>exact ih _ (h _) hW es
 | freeze a n k ih=>
  have:=ih h (hW.freeze a n) es;have hsz:(w.freeze a n).heap.size=w.heap.size:=by unfold World.freeze;split<;>simp
  refine Kept.step (e1:=#[]) (v:=w.freeze a n) ?_ (by omega) (by simp)
  simpa [Sem.runT] using this
 | frozen a k ih=>exact ih _ (h _) hW es
 | getObj r k ih=>
  obtain⟨hD,hk⟩:=h;simp only[Sem.runT]
  cases ho:w.heap[r]? with
  | none=>exactλ_=>⟨trivial,hW⟩
  | some o=>
   have hx:=hW.obj _ _ hD ho;have hlt:r<w.heap.size:=by
    rcases aX r w.heap.size with h|h
    ·exact h
    ·rw[aW h] at ho;cases ho
   have main:=Kept.step (Z:=Z) (w:=w) (es:=es) (e1:=#[⟨.obj r,false,false⟩]) (ih o (hk o hx) hW _) (aj _) (by intro e he;simp at he;subst he;exact⟨rfl,hD,hlt⟩);rw[eP] at main
   cases hx with
   | cells=>exactλ_=>⟨trivial,hW⟩
   | _=>exact main
 | setObj r o k ih=>
  obtain⟨hD,ho,hk⟩:=h;simp only[Sem.runT]
  cases hx:w.heap[r]? with
  | none=>exactλ_=>⟨trivial,hW⟩
  | some p=>
   have hlt:r<w.heap.size:=by
    rcases aX r w.heap.size with h|h
    ·exact h
    ·rw[aW h] at hx;cases hx
   have hch:o.isChan=false:=by cases ho<;>rfl
   have main:=Kept.step (Z:=Z) (w:=w) (es:=es) (e1:=#[⟨.obj r,true,false⟩]) (ih hk (hW.setObj (r:=r) ho) _) (by simp) (by intro e he;simp at he;subst he;exact⟨rfl,hD,by simpa using hlt⟩);rw[eP] at main;rw[hch]
   cases p<;>first|exactλ_=>⟨trivial,hW⟩|exact main
 | choose q k ih=>
  simp only[Sem.runT];split
  ·exact ih _ (h _) hW es
  ·have:=ih _ (h (q.cut (w.tape w.drawn q))) (w:={w with drawn:=w.drawn+1}) ⟨hW.fresh,hW.obj⟩ (es++#[]);refine Kept.step (e1:=#[]) (v:={w with drawn:=w.drawn+1}) ?_ (by simp) (by simp)
   simpa using this
 | sys c k ih=>
  simp only[Sem.runT];have hh:=World.qW w c;have:=ih _ (h.2 (w.sys c).1) (w:=(w.sys c).2) ⟨λb hb hy=>hW.fresh b (by rw[hh] at hb;exact hb) hy,λb o hD hb=>hW.obj b o hD (by rw[hh] at hb;exact hb)⟩ (es++#[⟨.output,true,false⟩]);rw[eP] at this;refine Kept.step (e1:=#[⟨.output,true,false⟩]) (v:=(w.sys c).2) ?_ (by rw[hh];exact aj _) (by intro e he;simp at he;subst he;rfl)
  rw[eP];exact this
 | program k ih=>exact ih P h hW es
 | mark m k ih=>
  have:=ih h.2 hW (es++#[⟨.mark m,false,true⟩]);refine Kept.step (e1:=#[⟨.mark m,false,true⟩]) (v:=w) ?_ (aj _) (by intro e he;simp at he;subst he;exact h.1);rw[eP] at this⊢;simpa [Sem.runT] using this
end
end Go.Zn
namespace Go.Zn
section
variable{Z:Zone}{P:Program}
structure POK(Z:Zone)(P:Program):Prop where
 zero:∀t i z,P.info? t=some i->i.zero=some z->VP Z z
 handle:Z.D P.globals.size
 methods:∀t i,Z.T t->P.info? t=some i->∀m∈i.methods,Z.N m.name->∀f p,m.func=some (f,p)->Z.F f
theorem Qi{a:Addr}(h:Z.D a.block):Sf Z P (VP Z) (load a):=⟨h,λ_ hv=>hv⟩
theorem c2r{a:Addr}(h:Z.D a.block):Sf Z P (VP Z) (load a .atomic):=⟨h,λ_ hv=>hv⟩
theorem c2s{a:Addr}(h:Z.D a.block){v:Value}(hv:VP Z v):Sf Z P (λ_=>True) (store a v):=⟨rfl,h,hv,trivial⟩
theorem X0{o:Obj}(h:fK Z o):Sf Z P Z.D (newObj o):=⟨h,λ_ hr=>hr⟩
theorem Y7(r:Nat):Sf Z P (λ_=>True) (shape r):=λ_=>trivial
theorem Un(a:Addr)(n:Nat):Sf Z P (λ_=>True) (freeze a n):=trivial
theorem QA(a:Addr):Sf Z P (λ_=>True) (frozen a):=λ_=>trivial
theorem U5{r:Nat}(h:Z.D r):Sf Z P (fK Z) (getObj r):=⟨h,λ_ ho=>ho⟩
theorem zH{r:Nat}(h:Z.D r){o:Obj}(ho:fK Z o):Sf Z P (λ_=>True) (setObj r o):=⟨h,ho,trivial⟩
theorem O1(q:Question):Sf Z P (λ_=>True) (choose q):=λ_=>trivial
theorem Hk:Sf Z P (λ_=>True) (sys .env):=⟨rfl,λ_=>trivial⟩
theorem F9:Sf Z P (λp=>p=P) program:=rfl
theorem NL{m:Mark}(h:fU m):Sf Z P (λ_=>True) (mark m):=⟨h,trivial⟩
theorem l7{α:Type}{Q:α->Prop}(x:String):Sf Z P Q (stuck x:Sem α):=trivial
theorem I4{α:Type}{Q:α->Prop}(x:Unsupported)(h:dV (.unsupported x)):Sf Z P Q (unsupported x:Sem α):=h
theorem EL{α:Type}{Q:α->Prop}(x:Value):Sf Z P Q (goPanic x:Sem α):=trivial
theorem UF(n:Nat):Sf Z P (λ_=>True) (askRoom n):=by
 unfold askRoom;split
 ·exact NL trivial
 ·exact Sf.pure trivial
theorem o6(t:TypeId):Sf Z P (λ_=>True) (underlying t):=by
 unfold underlying;refine Sf.bind F9 ?_;rintro _ rfl;split
 ·exact Sf.pure trivial
 ·exact l7 _
theorem J4(t:TypeId):Sf Z P (λi=>P.info? t=some i) (typeInfo t):=by
 unfold typeInfo;refine Sf.bind F9 ?_;rintro _ rfl;split
 ·rename_i h;exact Sf.pure h
 ·exact l7 _
theorem J7(t:TypeId):Sf Z P (λ_=>True) (sizeOf t):=Sf.bind (J4 t) λ_ _=>trivial
theorem BW(t:TypeId):Sf Z P (λ_=>True) (isAgg t):=by
 unfold isAgg;refine Sf.bind (o6 t) λa _=>?_;split<;>exact Sf.pure trivial
theorem UE(t:TypeId):Sf Z P (λ_=>True) (typeStr t):=by
 unfold typeStr;refine Sf.bind (J4 t) λa _=>?_;dsimp only;split
 ·exact I4 _ trivial
 ·exact Sf.pure trivial
theorem EM(t:TypeId):Sf Z P (λ_=>True) (elemOf t):=by
 unfold elemOf;refine Sf.bind (o6 t) λa _=>?_;split
 ·exact Sf.pure trivial
 ·exact l7 _
theorem U1(hP:POK Z P)(t:TypeId):Sf Z P (VP Z) (zeroValue t):=by
 unfold zeroValue;refine Sf.bind (J4 t) λi hi=>?_;split
 ·rename_i h;exact Sf.pure (hP.zero _ _ _ hi h)
 ·exact I4 _ trivial
theorem add_block(a:Addr)(n:Nat):(a.add n).block=a.block:=by unfold Addr.add;split<;>rfl
theorem a7o{a:Addr}(h:Z.D a.block)(n:Nat):∀(i:Nat)(acc:Array Value),AP Z acc->Sf Z P (AP Z) (loadCellsFrom a i n acc):=by
 induction n with
 | zero=>intro i acc hA;exact Sf.pure hA
 | succ n ih=>
  intro i acc hA;unfold loadCellsFrom;exact Sf.bind (Qi (by rw[add_block];exact h)) λv hv=>ih _ _ (hA.push hv)
theorem UQ{a:Addr}(h:Z.D a.block)(n:Nat):Sf Z P (AP Z) (loadCells a n):=a7o h n 0 _ AP.nil
theorem Vk{a:Addr}(h:Z.D a.block):∀(l:List Value)(i:Nat),LP Z l->Sf Z P (λ_=>True) (storeCells a l i):=by
 intro l
 induction l with
 | nil=>intro i _;exact Sf.pure trivial
 | cons v l ih=>
  intro i hl;unfold storeCells;exact Sf.bind (c2s (by rw[add_block];exact h) (hl v (by simp))) λ_ _=>ih _ λx hx=>hl x (by simp[hx])
theorem EK(t:TypeId){a:Addr}(h:Z.D a.block):Sf Z P (VP Z) (loadVar t a):=by
 unfold loadVar;refine Sf.bind (BW t) λb _=>?_;split
 ·exact Sf.bind (J7 t) λn _=>Sf.bind (UQ h _) λc hc=>Sf.pure (.agg c hc)
 ·exact Qi h
theorem P3(t:TypeId){a:Addr}(h:Z.D a.block){v:Value}(hv:VP Z v):Sf Z P (λ_=>True) (storeVar t a v):=by
 unfold storeVar;refine Sf.bind (J7 t) λn _=>?_;dsimp only;split
 ·exact l7 _
 ·exact Vk h _ _ hv.cells.list
theorem zG(t:TypeId){c:Array Value}(h:AP Z c):Sf Z P (λa=>Z.D a.block) (newRow t c):=Sf.bind (X0 (.cells _ _ _ h)) λr hr=>Sf.pure hr
theorem Kv(t:TypeId){v:Value}(h:VP Z v):Sf Z P (λa=>Z.D a.block) (newVar t v):=zG t h.cells
theorem uX(t:TypeId){c:Array Value}(h:AP Z c)(off:Nat):Sf Z P (VP Z) (part t c off):=by
 unfold part;refine Sf.bind (BW t) λb _=>?_;split
 ·exact Sf.bind (J7 t) λn _=>Sf.pure (.agg _ (h.extract _ _))
 ·split
  ·rename_i e;exact Sf.pure (h.get e)
  ·exact l7 _
theorem b88(hP:POK Z P)(t:TypeId):VP Z (typeHandle P t):=.ptr ⟨P.globals.size,t,none⟩ hP.handle
theorem y7(hP:POK Z P){α:Type}{Q:α->Prop}(e:RuntimeError):Sf Z P Q (runtimePanic e:Sem α):=by
 unfold runtimePanic;refine Sf.bind F9 ?_;rintro p rfl
 cases e with
 | typeAssertion i c a m=>
  have hh:∀o:Option TypeId,VP Z (match o with|some t=>typeHandle p t|none=>.pointer none):=by
   intro o;cases o
   ·exact .jc
   ·exact b88 hP _
  refine Sf.bind (EM _) λx _=>Sf.bind (Kv _ (.agg _ ?_)) λ_ _=>EL _
  exact(((AP.nil.push (hh i)).push (hh c)).push (hh (some a))).push (.string _)
 | panicNil=>exact Sf.bind (EM _) λx _=>Sf.bind (Kv _ (.agg _ AP.nil)) λ_ _=>EL _
 | _=>exact EL _
theorem X5(hP:POK Z P){α:Type}{Q:α->Prop}(k:IntKind)(x y:Int)(c:BoundsCode):Sf Z P Q (boundsPanic k x y c:Sem α):=by
 unfold boundsPanic;dsimp only;split
 ·exact Sf.bind (R:=λ_=>True) (Sf.bind (R:=λ_=>True) (O1 _) λ_ _=>Sf.pure trivial) λ_ _=>y7 hP _
 ·exact Sf.bind (R:=λ_=>True) (Sf.pure trivial) λ_ _=>y7 hP _
theorem UD(v:Value):Sf Z P (λ_=>True) (asIntOf v):=by
 unfold asIntOf;split
 ·exact Sf.pure trivial
 ·exact I4 _ trivial
 ·exact l7 _
theorem EF(v:Value):Sf Z P (λ_=>True) (asInt v):=Sf.bind (UD v) λ_ _=>Sf.pure trivial
theorem Um(v:Value):Sf Z P (λ_=>True) (asBool v):=by
 unfold asBool;split
 ·exact Sf.pure trivial
 ·exact l7 _
theorem c2t{v:Value}(h:VP Z v):Sf Z P (AP Z) (asAgg v):=by
 cases h<;>first|exact Sf.pure (by assumption)|exact l7 _
theorem Ku(hP:POK Z P){v:Value}(h:VP Z v):Sf Z P (λa=>Z.D a.block) (asAddr v):=by
 cases h with
 | jc=>exact y7 hP .nilDeref
 | ptr a h=>exact Sf.pure h
 | _=>exact l7 _
theorem QU{v:Value}(h:VP Z v):Sf Z P (λa=>Z.D a.block) (Instr.sureAddr v):=by
 cases h with
 | ptr a h=>exact Sf.pure h
 | _=>exact l7 _
theorem Ul{r:Nat}(h:Z.D r):Sf Z P (λo=>∀a t,o=some (a,t)->Z.D a.block) (viewAt r):=by
 unfold viewAt;refine Sf.bind (Y7 r) λs _=>?_;split
 ·exact Sf.pure (by simp)
 ·refine Sf.bind (U5 h) λo ho=>?_
  cases ho with
  | view a t h=>exact Sf.pure (by rintro _ _ ⟨⟩;exact h)
  | _=>exact Sf.pure (by simp)
theorem P2{r:Nat}(h:Z.D r):Sf Z P (λo=>∀a t,o=some (a,t)->Z.D a.block) (numberAt r):=by
 unfold numberAt;refine Sf.bind (Y7 r) λs _=>?_;split
 ·exact Sf.pure (by simp)
 ·refine Sf.bind (U5 h) λo ho=>?_
  cases ho with
  | number a t h=>exact Sf.pure (by rintro _ _ ⟨⟩;exact h)
  | _=>exact Sf.pure (by simp)
theorem H5{a:Addr}(h:Z.D a.block):Sf Z P (λp=>Z.D p.1.block) (behindNumber a):=by
 unfold behindNumber;refine Sf.bind (P2 h) λo ho=>Sf.pure ?_
 cases o with
 | none=>exact h
 | some p=>exact ho _ _ rfl
theorem P1{a:Addr}(h:Z.D a.block)(l:Bool):Sf Z P (VP Z) (asNumber a l):=Sf.bind (X0 (.number _ _ h)) λr hr=>Sf.pure (.ptr ⟨r,0,none⟩ hr)
theorem Z_{a:Addr}(h:Z.D a.block):Sf Z P (λ_=>True) (noView a):=by
 unfold noView;refine Sf.bind (Ul h) λs _=>?_;split
 ·exact I4 _ trivial
 ·exact Sf.pure trivial
theorem eM(a:Addr):Sf Z P (λ_=>True) (markStringish a):=by
 unfold markStringish;refine Sf.bind (Y7 _) λs _=>?_;split
 ·exact Un _ _
 ·exact Sf.pure trivial
theorem Wb(a:Addr):Sf Z P (λ_=>True) (stringish a):=by
 unfold stringish;refine Sf.bind (QA _) λb _=>?_;split
 ·exact Sf.pure trivial
 ·refine Sf.bind (Y7 _) λs _=>?_;split
  ·exact QA _
  ·exact Sf.pure trivial
theorem b4m(a b:Addr):Sf Z P (λ_=>True) (mayBeOne a b):=by
 unfold mayBeOne;refine Sf.bind (Wb _) λ_ _=>Sf.bind (Wb _) λ_ _=>?_;dsimp only;exact Sf.bind (R:=λ_=>True) (Sf.bind (Y7 _) λ_ _=>Sf.pure trivial) λ_ _=>Sf.bind (R:=λ_=>True) (Sf.bind (Y7 _) λ_ _=>Sf.pure trivial) λ_ _=>Sf.pure trivial
theorem P0{a b:Addr}(ha:Z.D a.block)(hb:Z.D b.block):Sf Z P (λ_=>True) (sameAddr a b):=by
 unfold sameAddr;split
 ·exact Sf.pure trivial
 refine Sf.bind (QA _) λ_ _=>Sf.bind (QA _) λ_ _=>?_;have rest:∀x:Bool,Sf Z P (λ_=>True) (if x then(do return (<-choose (.extern "sameAddr.stringBytes" 2))==1:Sem Bool) else pure false):=λx=>by
  split
  ·exact Sf.bind (O1 _) λ_ _=>Sf.pure trivial
  ·exact Sf.pure trivial
 split
 ·exact I4 _ trivial
 ·refine Sf.bind (Z_ ha) λ_ _=>Sf.bind (Z_ hb) λ_ _=>Sf.bind (b4m _ _) λc _=>?_;exact rest c
theorem b59{r:Nat}(h:Z.D r):Sf Z P (λ_=>True) (cellsIn r):=by
 unfold cellsIn;refine Sf.bind (Y7 r) λs _=>?_;split
 ·exact Sf.pure trivial
 ·refine Sf.bind (U5 h) λo ho=>?_;split<;>exact Sf.pure trivial
theorem H_{a:Addr}(h:Z.D a.block):Sf Z P (λ_=>True) (byteOf a):=by
 unfold byteOf;split
 ·exact Sf.pure trivial
 refine Sf.bind F9 ?_;rintro p rfl;refine Sf.bind (Z_ h) λ_ _=>Sf.bind (Y7 _) λs _=>?_;split
 ·dsimp only;split
  ·exact Sf.pure trivial
  ·split
   ·exact Sf.pure trivial
   ·exact l7 _
 ·exact l7 _
theorem b89{a:Addr}(h:Z.D a.block)(c b:Nat):Sf Z P (λa=>Z.D a.block) (partAt a c b):=by
 unfold partAt;refine Sf.bind (H_ h) λ_ _=>Sf.bind (H_ h) λ_ _=>Sf.pure ?_;split<;>exact h
theorem eB{a:Addr}(h:Z.D a.block)(f:Field):Sf Z P (λa=>Z.D a.block) (fieldPlace a f):=by
 unfold fieldPlace;refine Sf.bind (J7 _) λ_ _=>?_;split
 ·exact b89 h _ _
 ·exact Sf.pure (by rw[add_block];exact h)
theorem eL(a:Addr)(u:TypeId)(n:Nat):Sf Z P (λ_=>True) (variablesAt a u n):=by
 unfold variablesAt;refine Sf.bind F9 λ_ _=>Sf.bind (Y7 _) λ_ _=>?_;split<;>exact Sf.pure trivial
theorem Wa{a:Addr}(h:Z.D a.block)(n:Nat):∀acc,Sf Z P (λ_=>True) (loadBytes a acc n):=by
 induction n generalizing a with
 | zero=>intro acc;exact Sf.pure trivial
 | succ n ih=>
  intro acc;unfold loadBytes;refine Sf.bind (Qi h) λv _=>?_;split
  ·exact ih (by rw[add_block];exact h) _
  ·exact l7 _
def YQ{β:Type}(I:β->Prop):ForInStep β->Prop
 | .yield b=>I b
 | .done b=>I b
theorem BS{α β:Type}{I:β->Prop}(l:List α){b:β}(hb:I b){f:α->β->Sem (ForInStep β)}(h:∀x∈l,∀b,I b->Sf Z P (YQ I) (f x b)):Sf Z P I (forIn l b f):=by
 induction l generalizing b with
 | nil=>exact Sf.pure hb
 | cons x l ih=>
  rw[oI];refine Sf.bind (h x (by simp) b hb) λs hs=>?_
  cases s with
  | done b=>exact Sf.pure hs
  | yield b=>exact ih hs λy hy=>h y (by simp[hy])
theorem Qz{α β:Type}{I:β->Prop}(l:Array α){b:β}(hb:I b){f:α->β->Sem (ForInStep β)}(h:∀x∈l,∀b,I b->Sf Z P (YQ I) (f x b)):Sf Z P I (forIn l b f):=by
 rw[<-jJ];exact BS _ hb λx hx=>h x (by simpa using hx)
theorem ZY{β:Type}{I:β->Prop}(r:Std.Legacy.Range){b:β}(hb:I b){f:Nat->β->Sem (ForInStep β)}(h:∀x,∀b,I b->Sf Z P (YQ I) (f x b)):Sf Z P I (forIn r b f):=by
 rw[qj];exact BS _ hb λx _=>h x
theorem vD{α β:Type}{I:β->Prop}(l:Array α)(f:α->Sem β)(h:∀x∈l,Sf Z P I (f x)):Sf Z P (λr=>∀y∈r,I y) (l.mapM f):=by
 have key:∀l:List α,(∀x∈l,Sf Z P I (f x))->Sf Z P (λr=>∀y∈r,I y) (l.mapM f):=by
  intro l
  induction l with
  | nil=>intro _;exact Sf.pure (by simp)
  | cons x l ih=>
   intro h;rw[lJ];refine Sf.bind (h x (by simp)) λy hy=>Sf.bind (ih λz hz=>h z (by simp[hz])) λys hys=>Sf.pure ?_;intro z hz;rcases aY.1 hz with rfl|hz
   ·exact hy
   ·exact hys z hz
 rw[gZ];show Sf Z P _ (Functor.map List.toArray _);rw[jv];refine Sf.bind (key l.toList λx hx=>h x (by simpa using hx)) λys hys=>Sf.pure ?_;intro y hy;exact hys y (by simpa using hy)
end
end Go.Zn
namespace Go.Nm
section
open Zn (fU dV)
def Nf(P:Program){α:Type}(Q:α->Prop):Sem α->Prop
 | .halt h=>dV h
 | .pure a=>Q a
 | .load _ _ k=>∀v,Nf P Q (k v)
 | .store _ _ _ k=>Nf P Q k
 | .new _ k=>∀r,Nf P Q (k r)
 | .shape _ k=>∀s,Nf P Q (k s)
 | .freeze _ _ k=>Nf P Q k
 | .frozen _ k=>∀b,Nf P Q (k b)
 | .getObj _ k=>∀o,Nf P Q (k o)
 | .setObj _ _ k=>Nf P Q k
 | .choose _ k=>∀n,Nf P Q (k n)
 | .sys c k=>c=.env/\∀r,Nf P Q (k r)
 | .program k=>Nf P Q (k P)
 | .mark m k=>fU m/\Nf P Q k
abbrev Mf(P:Program){α:Type}(s:Sem α):Prop:=Nf P (λ_=>True) s
section
variable{P:Program}
theorem Nf.bind{α β:Type}{R:α->Prop}{Q:β->Prop}{s:Sem α}{f:α->Sem β}(h:Nf P R s)(hf:∀a,R a->Nf P Q (f a)):Nf P Q (s >>= f):=by
 show Nf P Q (s.bind f)
 induction s with
 | halt _=>exact h
 | pure a=>exact hf _ h
 | load m a k ih=>exactλv=>ih v (h v)
 | store m a v k ih=>exact ih h
 | new o k ih=>exactλr=>ih r (h r)
 | shape r k ih=>exactλs=>ih s (h s)
 | freeze a n k ih=>exact ih h
 | frozen a k ih=>exactλb=>ih b (h b)
 | getObj r k ih=>exactλo=>ih o (h o)
 | setObj r o k ih=>exact ih h
 | choose q k ih=>exactλn=>ih n (h n)
 | sys c k ih=>exact⟨h.1,λr=>ih r (h.2 r)⟩
 | program k ih=>exact ih P h
 | mark m k ih=>exact⟨h.1,ih h.2⟩
theorem l9{α β:Type}{s:Sem α}{f:α->Sem β}(h:Mf P s)(hf:∀a,Mf P (f a)):Mf P (s >>= f):=Nf.bind h λa _=>hf a
theorem o5{α:Type}(a:α):Mf P (Pure.pure a:Sem α):=trivial
theorem y8{α:Type}(x:String):Mf P (stuck x:Sem α):=trivial
theorem Q9{α:Type}(x:Unsupported)(h:dV (.unsupported x)):Mf P (unsupported x:Sem α):=h
theorem cJ{α:Type}(x:Value):Mf P (goPanic x:Sem α):=trivial
theorem CC{α β:Type}(f:α->β){s:Sem α}(h:Mf P s):Mf P (Functor.map f s):=by rw[jv];exact Nf.bind h λ_ _=>trivial
theorem J5{α:Type}{f:Program->Sem α}(h:Mf P (f P)):Mf P (program >>= f):=h
theorem u0:Mf P (sys .env):=⟨rfl,λ_=>trivial⟩
theorem Hv:Mf P (mark .noRoom):=⟨trivial,trivial⟩
theorem G6{α:Type}(c:Prop)[Decidable c]{s t:Sem α}(h:Mf P s)(k:Mf P t):Mf P (if c then s else t):=by split<;>assumption
theorem D4{α β:Type}(l:List α){b:β}{f:α->β->Sem (ForInStep β)}(h:∀x b,Mf P (f x b)):Mf P (forIn l b f):=by
 induction l generalizing b with
 | nil=>exact trivial
 | cons x l ih=>
  rw[oI];refine l9 (h x b) λs=>?_
  cases s with
  | done b=>exact trivial
  | yield b=>exact ih
theorem EO{α β:Type}(l:Array α){b:β}{f:α->β->Sem (ForInStep β)}(h:∀x b,Mf P (f x b)):Mf P (forIn l b f):=by
 rw[<-jJ];exact D4 _ h
theorem Kz{β:Type}(r:Std.Legacy.Range){b:β}{f:Nat->β->Sem (ForInStep β)}(h:∀x b,Mf P (f x b)):Mf P (forIn r b f):=by
 rw[qj];exact D4 _ h
theorem c04{α β:Type}(f:α->Sem β)(h:∀x,Mf P (f x)):∀l:List α,Mf P (l.mapM f):=by
 intro l
 induction l with
 | nil=>exact trivial
 | cons x l ih=>
  rw[lJ];exact l9 (h x) λy=>l9 ih λys=>trivial
theorem zd{α β:Type}(l:Array α)(f:α->Sem β)(h:∀x,Mf P (f x)):Mf P (l.mapM f):=by
 rw[gZ];show Mf P (Functor.map List.toArray _);rw[jv];exact l9 (c04 f h _) λys=>trivial
theorem Hj{α β:Type}(f:β->α->Sem β)(h:∀x y,Mf P (f x y)):∀(l:List α)(b:β),Mf P (l.foldlM f b):=by
 intro l
 induction l with
 | nil=>exactλ_=>trivial
 | cons x l ih=>
  intro b;rw[zM];exact l9 (h b x) λy=>ih y
end
end
end Go.Nm
namespace Go.Zn
section
variable{Z:Zone}{P:Program}
theorem c2w(hP:POK Z P)(t:TypeId):Sf Z P (VP Z) (Instr.alloc t true (.tuple #[])):=by
 unfold Instr.alloc;exact Sf.bind (U1 hP t) λz hz=>Sf.bind (Kv _ hz) λa ha=>Sf.pure (.ptr _ ha)
theorem Ha(t:TypeId){v:Value}(h:VP Z v):Sf Z P (VP Z) (Instr.box t v):=Sf.bind (Kv _ h) λa ha=>Sf.pure (.ptr _ ha)
theorem c2x(off:Nat)(l:List (Value×Nat))(h:∀x∈l,VP Z x.1):∀c:Array Value,AP Z c->AP Z (l.foldl (λcs(x:Value×Nat)=>cs.setIfInBounds (off+x.2) x.1) c):=by
 induction l with
 | nil=>intro c hc;exact hc
 | cons x l ih=>intro c hc;exact ih (λy hy=>h y (by simp[hy])) _ (hc.set _ (h x (by simp)))
theorem TM(place:Nat->Option (Nat×Nat)):∀(l:List (Nat×Value))(c d:Array Value),(∀x∈l,VP Z x.2)->AP Z c->Instr.fill place c l=some d->AP Z d:=by
 intro l
 induction l with
 | nil=>intro c d _ hc h;injection h with h;exact h▸hc
 | cons x l ih=>
  intro c d hl hc h;obtain⟨i,v⟩:=x;unfold Instr.fill at h;split at h
  ·cases h
  ·split at h
   ·cases h
   ·refine ih _ _ (λy hy=>hl y (by simp[hy])) ?_ h;rw[<-lU,sD];refine c2x _ _ (λy hy=>?_) c hc;obtain⟨y1,y2⟩:=y;have hv:VP Z v:=hl (i,v) (by simp);have:=List.mem_zipIdx hy;exact hv.cells.list y1 (this.2.2▸fE _)
theorem c2y(hP:POK Z P)(t:TypeId){parts:Array (Nat×Value)}(h:∀x∈parts,VP Z x.2):Sf Z P (VP Z) (Instr.build t parts):=by
 unfold Instr.build;refine Sf.bind (U1 hP t) λz hz=>?_;dsimp only;refine Sf.bind (o6 t) λd _=>?_;have hl:∀x∈parts.toList,VP Z x.2:=λx hx=>h x (by simpa using hx);split
 ·refine Sf.bind (vD (I:=λ_=>True) _ _ λf _=>Sf.bind (J7 _) λ_ _=>Sf.pure trivial) λplaces _=>?_;split
  ·rename_i e;exact Sf.pure (.agg _ (TM _ _ _ _ hl hz.cells e))
  ·exact l7 _
 ·refine Sf.bind (J7 _) λsize _=>?_;split
  ·rename_i e;exact Sf.pure (.agg _ (TM _ _ _ _ hl hz.cells e))
  ·exact l7 _
 ·exact l7 _
theorem b6a:VP Z (default:Value):=.bool _
theorem Ue{c:Array Value}(h:AP Z c)(n:Nat):AP Z ((Array.range n).map (c[· % c.size]!)):=by
 intro x hx;obtain⟨i,hi,rfl⟩:=gI.1 hx;by_cases hlt:i%c.size<c.size
 ·rw[vY c (i%c.size) hlt];exact h _ (iY _)
 ·rw[getElem!_neg c (i%c.size) hlt];exact b6a
theorem b0y(hP:POK Z P)(t:TypeId)(len:Nat){parts:Array (Nat×Value)}(h:∀x∈parts,VP Z x.2):Sf Z P (VP Z) (Instr.buildSlice t len parts):=by
 unfold Instr.buildSlice;refine Sf.bind (o6 t) λd _=>?_;have hl:∀x∈parts.toList,VP Z x.2:=λx hx=>h x (by simpa using hx);split
 ·refine Sf.bind (J7 _) λsize _=>?_;dsimp only;split
  ·exact I4 _ trivial
  ·split
   ·refine Sf.bind (R:=AP Z) (Sf.pure AP.nil) λz hz=>?_;split
    ·rename_i e;exact Sf.bind (zG _ (TM _ _ _ _ hl (Ue hz _) e)) λa ha=>Sf.pure (.slice _ _ _ ha)
    ·exact l7 _
   ·refine Sf.bind (U1 hP _) λv hv=>Sf.bind (R:=AP Z) (Sf.pure hv.cells) λz hz=>?_;split
    ·rename_i e;exact Sf.bind (zG _ (TM _ _ _ _ hl (Ue hz _) e)) λa ha=>Sf.pure (.slice _ _ _ ha)
    ·exact l7 _
 ·exact l7 _
theorem b9a(t:TypeId){a:Value}(h:VP Z a):Sf Z P (VP Z) (Instr.loadAt t a):=Sf.bind (QU h) λ_ ha=>EK t ha
theorem b6b(t:TypeId){a v:Value}(h:VP Z a)(hv:VP Z v):Sf Z P (λ_=>True) (Instr.storeAt t a v):=Sf.bind (QU h) λ_ ha=>P3 t ha hv
theorem b6c(s:TypeId){a:Value}(h:VP Z a)(f:Nat):Sf Z P (VP Z) (Instr.fieldAt s a f):=by
 unfold Instr.fieldAt;refine Sf.bind (o6 s) λd _=>?_;split
 ·split
  ·exact Sf.bind (QU h) λa ha=>Sf.bind (eB ha _) λb hb=>Sf.pure (.ptr _ hb)
  ·exact l7 _
 ·exact l7 _
theorem b6d(hP:POK Z P)(t:TypeId){x:Value}(h:VP Z x)(i:Value):Sf Z P (VP Z) (Instr.indexAt t x i):=by
 unfold Instr.indexAt;refine Sf.bind (UD i) λki _=>?_;obtain⟨k,i⟩:=ki;dsimp only;refine Sf.bind (o6 t) λd _=>?_;split
 ·refine Sf.bind (QU h) λa ha=>Sf.bind (R:=λr:Option Addr×Nat×TypeId=>∀a,r.1=some a->Z.D a.block) (Sf.pure (by rintro _ ⟨⟩;exact ha)) λr hr=>Sf.bind (o6 t) λd _=>?_;split
  ·rename_i e;split
   ·exact Sf.bind (J7 _) λn _=>Sf.pure (.ptr _ (by rw[add_block];exact hr _ e))
   ·repeat' first|exact I4 _ trivial|exact X5 hP _ _ _ _|split
  ·exact X5 hP _ _ _ _
 ·refine Sf.bind (R:=λr:Option Addr×Nat×TypeId=>∀a,r.1=some a->Z.D a.block) (Sf.pure (by
   rename_i base len c
   cases h with
   | gy=>simp
   | slice a _ _ ha=>rintro _ ⟨⟩;exact ha)) λr hr=>Sf.bind (o6 t) λd _=>?_
  split
  ·rename_i e;split
   ·exact Sf.bind (J7 _) λn _=>Sf.pure (.ptr _ (by rw[add_block];exact hr _ e))
   ·repeat' first|exact I4 _ trivial|exact X5 hP _ _ _ _|split
  ·exact X5 hP _ _ _ _
 ·exact l7 _
theorem b0z(hP:POK Z P)(x:Value)(y:Nat)(c:BoundsCode):Sf Z P (λ_=>True) (Instr.sliceBound x y c):=by
 unfold Instr.sliceBound;refine Sf.bind (UD x) λki _=>?_;obtain⟨k,i⟩:=ki;dsimp only;split
 ·exact Sf.pure trivial
 ·exact X5 hP _ _ _ _
theorem Vd(hP:POK Z P)(s:Bool)(len cap:Nat)(low high max:Option Value):Sf Z P (λ_=>True) (Instr.sliceBounds s len cap low high max):=by
 unfold Instr.sliceBounds;dsimp only
 repeat' first
  | with_reducible exact Sf.pure trivial
  | with_reducible refine Sf.bind (b0z hP _ _ _) λ_ _=>?_
  | with_reducible refine Sf.bind (R:=λ_=>True) (Sf.pure trivial) λ_ _=>?_
  | with_reducible refine Sf.bind (R:=λ_=>True) (l7 _) λ_ _=>?_
  | split
theorem c2z(hP:POK Z P)(t:TypeId){x:Value}(hx:VP Z x)(low high max:Option Value):Sf Z P (VP Z) (Instr.slice t x low high max):=by
 unfold Instr.slice;refine Sf.bind (o6 t) λd _=>?_;split
 ·rename_i s;have main:Sf Z P (VP Z) (do let (l,h,_) <-Instr.sliceBounds false s.size s.size low high none;pure (.string (s.extract l h))):=Sf.bind (Vd hP _ _ _ _ _ _) λr _=>Sf.pure (.string _);split
  ·exact l7 _
  ·exact main
 ·refine Sf.bind (Vd hP _ _ _ _ _ _) λr _=>?_;obtain⟨l,h,m⟩:=r;refine Sf.bind (J7 _) λn _=>Sf.pure ?_
  cases hx with
  | gy=>split<;>exact .gy _ _
  | slice a _ _ ha=>
   split
   ·exact .slice _ _ _ ha
   ·exact .slice _ _ _ (by rw[add_block];exact ha)
 ·refine Sf.bind (Ku hP hx) λa ha=>Sf.bind (o6 _) λd _=>?_;split
  ·refine Sf.bind (Vd hP _ _ _ _ _ _) λr _=>?_;obtain⟨l,h,m⟩:=r;refine Sf.bind (J7 _) λn _=>Sf.pure (.slice _ _ _ ?_);split
   ·exact ha
   ·rw[add_block];exact ha
  ·exact l7 _
 ·exact l7 _
theorem b6e(hP:POK Z P)(t:TypeId){x:Value}(hx:VP Z x)(low high max:Option Value):Sf Z P (VP Z) (Instr.sliceAt t x low high max):=by
 unfold Instr.sliceAt;refine Sf.bind (o6 t) λd _=>?_;split
 ·refine Sf.bind (QU hx) λa ha=>Sf.bind (Vd hP _ _ _ _ _ _) λr _=>?_;obtain⟨l,h,m⟩:=r;refine Sf.bind (J7 _) λn _=>Sf.pure (.slice _ _ _ ?_);split
  ·exact ha
  ·rw[add_block];exact ha
 ·exact c2z hP t hx _ _ _
theorem a7r(t:TypeId)(ht:Z.T t){v:Value}(h:VP Z v):Sf Z P (VP Z) (Instr.makeInterface t v):=by
 unfold Instr.makeInterface;refine Sf.bind (o6 t) λd _=>?_;split
 ·exact l7 _
 ·exact Sf.pure (.iface _ _ ht h)
theorem b4o{fn:Fn}(hf:xJ Z fn){a b:Array Value}(ha:AP Z a)(hb:AP Z b):Sf Z P (VP Z) (Instr.makeFunc fn a b):=Sf.pure (.func _ _ _ hf ha hb)
theorem b6f(t:TypeId)(r:Option Value):Sf Z P (VP Z) (Instr.makeMap t r):=by
 unfold Instr.makeMap;have rest:Sf Z P (VP Z) (do pure (.map (some (<-newObj (.map #[] 0))))):=Sf.bind (X0 (.map _ _ (by simp))) λr hr=>Sf.pure (.map _ hr);split
 ·refine Sf.bind (o6 t) λd _=>?_;split
  ·exact Sf.bind (EF _) λ_ _=>rest
  ·exact l7 _
 ·exact rest
theorem b2S(hP:POK Z P)(t:TypeId)(l c:Value):Sf Z P (VP Z) (Instr.makeSlice t l c):=by
 unfold Instr.makeSlice;refine Sf.bind (o6 t) λd _=>?_;split
 ·refine Sf.bind (EF _) λlen _=>Sf.bind (EF _) λcap _=>Sf.bind (J4 _) λi _=>?_;dsimp only
  repeat' first
   | with_reducible exact Sf.bind (zG _ (Ue (by assumption) _)) λa ha=>Sf.pure (.slice _ _ _ ha)
   | with_reducible refine Sf.bind (R:=λ_=>True) (y7 hP _) λ_ _=>?_
   | with_reducible refine Sf.bind (O1 _) λ_ _=>?_
   | with_reducible refine Sf.bind (UF _) λ_ _=>?_
   | with_reducible refine Sf.bind (J7 _) λ_ _=>?_
   | with_reducible refine Sf.bind (U1 hP _) λv hv=>Sf.bind (R:=AP Z) (Sf.pure hv.cells) λz hz=>?_
   | with_reducible refine Sf.bind (R:=AP Z) (Sf.pure AP.nil) λz hz=>?_
   | split
 ·exact l7 _
theorem c2A(t:TypeId){x:Value}(h:VP Z x)(f:Nat):Sf Z P (VP Z) (Instr.field t x f):=by
 unfold Instr.field;refine Sf.bind (o6 t) λd _=>?_;split
 ·split
  ·exact Sf.bind (c2t h) λc hc=>uX _ hc _
  ·exact l7 _
 ·exact l7 _
theorem c2B(hP:POK Z P)(t:TypeId){x:Value}(h:VP Z x)(i:Value):Sf Z P (VP Z) (Instr.index t x i):=by
 unfold Instr.index;refine Sf.bind (UD i) λki _=>?_;obtain⟨k,i⟩:=ki;dsimp only;refine Sf.bind (o6 t) λd _=>?_;split
 ·split
  ·cases h with
   | agg c hc=>exact Sf.bind (J7 _) λ_ _=>uX _ hc _
  ·exact X5 hP _ _ _ _
 ·split
  ·exact Sf.pure (.int _ _)
  ·exact X5 hP _ _ _ _
 ·exact l7 _
theorem b6g{x:Value}(h:VP Z x)(i:Nat):Sf Z P (VP Z) (Instr.extract x i):=by
 unfold Instr.extract
 cases h with
 | tuple c hc=>
  dsimp only;split
  ·rename_i e;exact Sf.pure (AP.get hc e)
  ·exact l7 _
 | _=>exact l7 _
theorem BE(hP:POK Z P)(x:Value){Q:Value->Prop}:Sf Z P Q (Instr.panic x):=by
 unfold Instr.panic;split
 ·exact EL _
 ·refine Sf.bind (R:=λ_=>True) ?_ λn _=>?_
  ·unfold Instr.panicnil;refine Sf.bind (Hk) λr _=>?_;split
   ·exact Sf.bind F9 λ_ _=>Sf.pure trivial
   ·exact l7 _
  ·split
   ·exact EL _
   ·exact y7 hP _
 ·exact l7 _
theorem b0A(hP:POK Z P){x:Value}(h:VP Z x)(t u:TypeId)(ok:Bool):Sf Z P (VP Z) (Instr.typeAssert x t u ok):=by
 unfold Instr.typeAssert;have hh:∀v,VP Z v->Sf Z P (VP Z) (pure (if ok then .tuple #[v,.bool true] else v):Sem Value):=λv hv=>by
  split
  ·exact Sf.pure (.tuple _ ((AP.nil.push hv).push (.bool _)))
  ·exact Sf.pure hv
 have hf:∀s d m,Sf Z P (VP Z) (if ok then do pure (.tuple #[<-zeroValue u,.bool false]) else runtimePanic (.typeAssertion s d u m):Sem Value):=λs d m=>by
  split
  ·exact Sf.bind (U1 hP _) λz hz=>Sf.pure (.tuple _ ((AP.nil.push hz).push (.bool _)))
  ·exact y7 hP _
 dsimp only;refine Sf.bind (o6 _) λd _=>?_;split
 ·exact hf _ _ _
 ·refine Sf.bind (J4 _) λi _=>?_;split
  ·exact hh _ h
  ·exact hf _ _ _
 ·exact hf _ _ _
 ·split
  ·cases h with
   | iface _ _ _ hv=>exact hh _ hv
  ·exact hf _ _ _
 ·exact l7 _
theorem PC(op:BinOp)(k:IntKind)(x y:Int):Sf Z P (VP Z) (Op.intArith op k x y):=by
 unfold Op.intArith;split<;>first|exact Sf.pure (.int _ _)|exact l7 _
theorem M7(op:BinOp)(k:IntKind)(x y:Int):Sf Z P (VP Z) (Op.intBits op k x y):=by
 unfold Op.intBits;dsimp only;split<;>first|exact Sf.pure (.int _ _)|exact l7 _
theorem b9b(op:BinOp)(x y:Int):Sf Z P (VP Z) (Op.intCmp op x y):=by
 unfold Op.intCmp;split<;>first|exact Sf.pure (.bool _)|exact l7 _
theorem b9c(hP:POK Z P)(op:BinOp)(k:IntKind)(x y:Int):Sf Z P (VP Z) (Op.intDiv op k x y):=by
 unfold Op.intDiv;split
 ·exact y7 hP _
 ·split<;>first|exact Sf.pure (.int _ _)|exact l7 _
theorem Bw(hP:POK Z P)(op:BinOp)(k:IntKind)(x:Int)(k':IntKind)(y:Int):Sf Z P (VP Z) (Op.shift op k x k' y):=by
 unfold Op.shift;split
 ·exact y7 hP _
 ·dsimp only;split<;>first|exact Sf.pure (.int _ _)|exact l7 _
theorem cS(op:BinOp)(x y:ByteArray):Sf Z P (λv=>VP Z v) (Op.stringOp op x y):=by
 unfold Op.stringOp;dsimp only;split
 ·split
  ·exact I4 _ trivial
  ·exact Sf.pure (.string _)
 all_goals first|exact Sf.pure (.bool _)|exact l7 _
theorem ZD(op:BinOp)(k:FloatKind)(x y:Nat):Sf Z P (VP Z) (Op.floatArith op k x y):=by
 unfold Op.floatArith;dsimp only
 repeat' first
  | with_reducible exact Sf.pure (.float _ _)
  | with_reducible refine Sf.bind (O1 _) λ_ _=>?_
  | with_reducible refine Sf.bind (R:=λ_=>True) (Sf.pure trivial) λ_ _=>?_
  | with_reducible refine Sf.bind (R:=λ_=>True) (l7 _) λ_ _=>?_
  | split
theorem Pe(op:BinOp)(k:FloatKind)(x y:Nat):Sf Z P (VP Z) (Op.floatCmp op k x y):=by
 unfold Op.floatCmp;dsimp only;split<;>first|exact Sf.pure (.bool _)|exact l7 _
theorem b0B(k:FloatKind)(b:Nat)(d:IntKind):Sf Z P (VP Z) (Conv.floatToInt k b d):=by
 unfold Conv.floatToInt;dsimp only;split
 ·split
  ·exact Sf.pure (.int _ _)
  ·exact Sf.bind (O1 _) λ_ _=>Sf.pure (.int _ _)
 ·exact Sf.bind (O1 _) λ_ _=>Sf.pure (.int _ _)
theorem Vt(k:FloatKind)(b:Nat)(d:FloatKind):Sf Z P (VP Z) (Conv.floatToFloat k b d):=by
 unfold Conv.floatToFloat;split
 ·exact Sf.pure (.float _ _)
 ·split
  ·exact Sf.bind (O1 _) λ_ _=>Sf.pure (.float _ _)
  ·exact Sf.pure (.float _ _)
  ·dsimp only;split
   ·exact Sf.bind (O1 _) λ_ _=>Sf.pure (.float _ _)
   ·exact Sf.pure (.float _ _)
theorem xq(src:FloatKind)(x:Nat)(dst:FloatKind):Sf Z P (λ_=>True) (Op.Complex.conv src x dst):=by
 unfold Op.Complex.conv;split
 ·exact Sf.pure trivial
 ·refine Sf.bind (Vt _ _ _) λv _=>?_;split
  ·exact Sf.pure trivial
  ·exact l7 _
theorem Qy(op:BinOp)(k:FloatKind)(x y:Nat):Sf Z P (λ_=>True) (Op.Complex.arith op k x y):=by
 unfold Op.Complex.arith;refine Sf.bind (ZD _ _ _ _) λv _=>?_;split
 ·exact Sf.pure trivial
 ·exact l7 _
theorem Qh(op:BinOp)(k:FloatKind)(x y:Nat):Sf Z P (λ_=>True) (Op.Complex.cmp op k x y):=Sf.bind (Pe _ _ _ _) λv _=>Um v
theorem b2T(op:BinOp)(k:FloatKind)(a b c d:Nat):Sf Z P (VP Z) (Op.complexOp op k a b c d):=by
 have A:=λop(x y:Nat)=>Qy (Z:=Z) (P:=P) op .f64 x y;have e4:∀x y:Nat,Sf Z P (λ_=>True) (Op.Complex.mul x y)/\Sf Z P (λ_=>True) (Op.Complex.add x y)/\Sf Z P (λ_=>True) (Op.Complex.sub x y)/\Sf Z P (λ_=>True) (Op.Complex.quo x y):=λx y=>⟨A _ _ _,A _ _ _,A _ _ _,A _ _ _⟩;have prod:∀a b c d,Sf Z P (λ_=>True) (Op.Complex.product a b c d):=λa b c d=>by
  unfold Op.Complex.product;exact Sf.bind (e4 _ _).1 λ_ _=>Sf.bind (e4 _ _).1 λ_ _=>Sf.bind (e4 _ _).2.2.1 λ_ _=>Sf.bind (e4 _ _).1 λ_ _=>Sf.bind (e4 _ _).1 λ_ _=>Sf.bind (e4 _ _).2.1 λ_ _=>Sf.pure trivial
 have YD:∀s a b c d,Sf Z P (λ_=>True) (Op.Complex.corrected s a b c d):=λs a b c d=>by
  unfold Op.Complex.corrected;exact Sf.bind (e4 _ _).1 λ_ _=>Sf.bind (e4 _ _).1 λ_ _=>Sf.bind (e4 _ _).2.1 λ_ _=>Sf.bind (e4 _ _).1 λ_ _=>Sf.bind (e4 _ _).1 λ_ _=>Sf.bind (e4 _ _).1 λ_ _=>Sf.bind (e4 _ _).2.2.1 λ_ _=>Sf.bind (e4 _ _).1 λ_ _=>Sf.pure trivial
 have quot:∀a b c d,Sf Z P (λ_=>True) (Op.Complex.quotient a b c d):=λa b c d=>by
  unfold Op.Complex.quotient;dsimp only
  repeat' first
   | with_reducible exact Sf.pure trivial
   | with_reducible exact YD _ _ _ _ _
   | with_reducible refine Sf.bind (Qh _ _ _ _) λ_ _=>?_
   | with_reducible refine Sf.bind (e4 _ _).1 λ_ _=>?_
   | with_reducible refine Sf.bind (e4 _ _).2.1 λ_ _=>?_
   | with_reducible refine Sf.bind (e4 _ _).2.2.1 λ_ _=>?_
   | with_reducible refine Sf.bind (e4 _ _).2.2.2 λ_ _=>?_
   | with_reducible refine Sf.bind (R:=λ_=>True) (Sf.pure trivial) λ_ _=>?_
   | split
 unfold Op.complexOp;split
 ·exact Sf.bind (Qy _ _ _ _) λ_ _=>Sf.bind (Qy _ _ _ _) λ_ _=>Sf.pure (.complex _ _ _)
 ·exact Sf.bind (Qy _ _ _ _) λ_ _=>Sf.bind (Qy _ _ _ _) λ_ _=>Sf.pure (.complex _ _ _)
 ·refine Sf.bind (xq _ _ _) λ_ _=>Sf.bind (xq _ _ _) λ_ _=>Sf.bind (xq _ _ _) λ_ _=>Sf.bind (xq _ _ _) λ_ _=>Sf.bind (R:=λ_=>True) ?_ λ_ _=>Sf.bind (xq _ _ _) λ_ _=>Sf.bind (xq _ _ _) λ_ _=>Sf.pure (.complex _ _ _);first|exact prod _ _ _ _|exact quot _ _ _ _
 ·refine Sf.bind (xq _ _ _) λ_ _=>Sf.bind (xq _ _ _) λ_ _=>Sf.bind (xq _ _ _) λ_ _=>Sf.bind (xq _ _ _) λ_ _=>Sf.bind (R:=λ_=>True) ?_ λ_ _=>Sf.bind (xq _ _ _) λ_ _=>Sf.bind (xq _ _ _) λ_ _=>Sf.pure (.complex _ _ _);first|exact prod _ _ _ _|exact quot _ _ _ _
 ·exact Sf.bind (Qh _ _ _ _) λ_ _=>Sf.bind (Qh _ _ _ _) λ_ _=>Sf.pure (.bool _)
 ·exact Sf.bind (Qh _ _ _ _) λ_ _=>Sf.bind (Qh _ _ _ _) λ_ _=>Sf.pure (.bool _)
 ·exact l7 _
theorem c2C(op:UnOp)(x:Value):Sf Z P (VP Z) (Op.unary op x):=by
 unfold Op.unary;split
 ·exact PC _ _ _ _
 ·exact M7 _ _ _ _
 ·exact Sf.pure (.float _ _)
 ·exact Sf.pure (.complex _ _ _)
 ·exact Sf.pure (.bool _)
 ·exact I4 _ trivial
 ·exact I4 _ trivial
 ·exact l7 _
end
section
variable{Z:Zone}{P:Program}
theorem CO{α β:Type}{Q:β->Prop}(x:Unsupported)(f:α->Sem β)(h:dV (.unsupported x)):Sf Z P Q ((unsupported x:Sem α) >>= f):=h
theorem P5{α:Type}{Q:α->Prop}(c:Prop)[Decidable c]{s t:Sem α}(h:Sf Z P Q s)(k:Sf Z P Q t):Sf Z P Q (if c then s else t):=by
 split
 ·exact h
 ·exact k
theorem a9Q{a b:Option Addr}(ha:∀x,a=some x->Z.D x.block)(hb:∀x,b=some x->Z.D x.block):Sf Z P (λ_=>True) (samePointer a b):=by
 unfold samePointer;split
 ·exact P0 (ha _ rfl) (hb _ rfl)
 ·exact Sf.pure trivial
theorem VP.fO{a:Addr}(h:VP Z (.pointer (some a))):Z.D a.block:=by cases h;assumption
theorem VP.kE{c:Array Value}(h:VP Z (.agg c)):AP Z c:=by cases h;assumption
theorem VP.jD{t:TypeId}{v:Value}(h:VP Z (.iface t v)):Z.T t/\VP Z v:=by cases h;exact⟨by assumption,by assumption⟩
theorem b6h(hP:POK Z P):∀(n:Nat)(t:TypeId)(x y:Value),VP Z x->VP Z y->Sf Z P (λ_=>True) (Op.equalIn n t x y):=by
 intro n
 induction n with
 | zero=>intro t x y _ _;exact I4 _ trivial
 | succ n ih=>
  intro t x y hx hy;unfold Op.equalIn;refine Sf.bind (o6 t) λd _=>?_;split
  ·exact Sf.pure trivial
  ·split
   ·exact Sf.pure trivial
   ·exact l7 _
  ·exact Sf.pure trivial
  ·exact Sf.pure trivial
  ·rename_i a b;refine Sf.bind (H5 hx.fO) λp hp=>Sf.bind (H5 hy.fO) λq hq=>Sf.bind F9 λ_ _=>?_;split
   ·exact Sf.bind (H_ hp) λ_ _=>Sf.bind (H_ hq) λ_ _=>Sf.pure trivial
   ·refine Sf.bind (J4 _) λi _=>?_;split
    ·split
     ·exact Sf.pure trivial
     ·exact I4 _ trivial
    ·exact I4 _ trivial
  ·exact I4 _ trivial
  ·exact I4 _ trivial
  ·split
   ·exact Sf.pure trivial
   ·exact l7 _
  ·split
   ·exact Sf.pure trivial
   ·exact l7 _
  ·exact Sf.pure trivial
  ·exact Sf.pure trivial
  ·exact Sf.pure trivial
  ·refine Sf.bind (J7 _) λ_ _=>?_;split
   ·exact P0 hx.fO hy.fO
   ·split
    ·exact Sf.pure trivial
    ·exact Sf.bind (O1 _) λ_ _=>Sf.pure trivial
  ·exact a9Q (by rintro _ rfl;exact hx.fO) (by rintro _ rfl;exact hy.fO)
  ·exact Sf.pure trivial
  ·exact Sf.pure trivial
  ·exact Sf.pure trivial
  ·exact Sf.pure trivial
  ·split
   ·exact Sf.pure trivial
   ·refine Sf.bind (J4 _) λi _=>?_;dsimp only;split
    ·refine Sf.bind F9 λ_ _=>Sf.bind F9 λ_ _=>?_;split
     ·exact I4 _ trivial
     ·exact Sf.bind (UE _) λ_ _=>y7 hP _
    ·exact ih _ _ _ hx.jD.2 hy.jD.2
  ·refine Sf.bind F9 λ_ _=>?_;split
   ·exact I4 _ trivial
   ·refine Sf.bind (R:=λ_=>True) (Qz (I:=λ_=>True) _ trivial λf _ b _=>?_) λr _=>?_
    ·split
     ·refine Sf.bind (uX _ hx.kE _) λu hu=>Sf.bind (uX _ hy.kE _) λv hv=>Sf.bind (ih _ _ _ hu hv) λc _=>?_;split<;>exact Sf.pure trivial
     ·exact Sf.pure trivial
    ·dsimp only;split<;>exact Sf.pure trivial
  ·refine Sf.bind (J7 _) λ_ _=>Sf.bind (R:=λ_=>True) (ZY (I:=λ_=>True) _ trivial λi b _=>?_) λr _=>?_
   ·refine Sf.bind (uX _ hx.kE _) λu hu=>Sf.bind (uX _ hy.kE _) λv hv=>Sf.bind (ih _ _ _ hu hv) λc _=>?_;split<;>exact Sf.pure trivial
   ·dsimp only;split<;>exact Sf.pure trivial
  ·exact Sf.pure trivial
  ·exact Sf.pure trivial
  ·exact Sf.pure trivial
  ·exact Sf.pure trivial
  ·exact Sf.pure trivial
  ·exact Sf.pure trivial
  ·exact Sf.pure trivial
  ·exact l7 _
theorem ZM(hP:POK Z P)(t:TypeId){x y:Value}(hx:VP Z x)(hy:VP Z y):Sf Z P (λ_=>True) (Op.equal t x y):=b6h hP _ _ _ _ hx hy
theorem V1:∀(n:Nat)(t:TypeId)(x y:Value),VP Z x->VP Z y->Sf Z P (λ_=>True) (Op.eqGuardIn n t x y):=by
 intro n
 induction n with
 | zero=>intro t x y _ _;exact I4 _ trivial
 | succ n ih=>
  intro t x y hx hy;unfold Op.eqGuardIn;refine Sf.bind (o6 t) λd _=>?_;split
  ·exact Sf.pure trivial
  ·refine Sf.bind (R:=λ_=>True) (Qz (I:=λ_=>True) _ trivial λf _ b _=>?_) λr _=>?_
   ·split
    ·refine Sf.bind (uX _ hx.kE _) λu hu=>Sf.bind (uX _ hy.kE _) λv hv=>Sf.bind (ih _ _ _ hu hv) λc _=>?_;split<;>exact Sf.pure trivial
    ·exact Sf.pure trivial
   ·dsimp only;split<;>exact Sf.pure trivial
  ·refine Sf.bind (J7 _) λ_ _=>Sf.bind (R:=λ_=>True) (ZY (I:=λ_=>True) _ trivial λi b _=>?_) λr _=>?_
   ·refine Sf.bind (uX _ hx.kE _) λu hu=>Sf.bind (uX _ hy.kE _) λv hv=>Sf.bind (ih _ _ _ hu hv) λc _=>?_;split<;>exact Sf.pure trivial
   ·dsimp only;split<;>exact Sf.pure trivial
  ·exact Sf.pure trivial
theorem b6i(op:BinOp)(t:TypeId)(x y:Operand){a b:Value}(ha:VP Z a)(hb:VP Z b):Sf Z P (λ_=>True) (eqGuard op t x y a b):=by
 unfold eqGuard;refine P5 _ (Sf.pure trivial) ?_;split
 ·refine P5 _ (Sf.pure trivial) ?_
  ·refine Sf.bind (V1 _ _ _ _ ha hb) λc _=>?_;split
   ·exact I4 _ trivial
   ·exact Sf.pure trivial
 ·refine Sf.bind F9 λ_ _=>Sf.bind F9 λ_ _=>?_;split
  ·exact Sf.pure trivial
  ·refine Sf.bind (V1 _ _ _ _ ha hb) λc _=>?_;split
   ·exact I4 _ trivial
   ·exact Sf.pure trivial
 ·exact Sf.pure trivial
theorem b0C(ts:Array TypeId)(t:TypeId){ptr:Option Addr}(y:Value)(hp:VP Z (.pointer ptr)):Sf Z P (VP Z) (Builtin.unsafeAdd_ ts t #[.pointer ptr,y]):=by
 unfold Builtin.unsafeAdd_;dsimp only;refine Sf.bind (EF _) λn _=>?_;split
 ·split
  ·refine Sf.bind (Ul hp.fO) λo _=>?_;split
   ·exact CO _ _ trivial
   ·exact Sf.pure hp
  ·exact I4 _ trivial
 ·split
  ·exact CO _ _ trivial
  ·split
   ·refine Sf.bind (Y7 _) λs _=>?_;split
    ·refine Sf.bind F9 λp _=>?_;split
     ·exact Sf.pure (.ptr _ hp.fO)
     ·exact I4 _ trivial
    ·exact I4 _ trivial
   ·exact I4 _ trivial
theorem UO(ts:Array TypeId)(t:TypeId){args:Array Value}(h:AP Z args):Sf Z P (VP Z) (Builtin.unsafeAdd_ ts t args):=by
 obtain⟨l⟩:=args;rcases l with _|⟨x,_|⟨y,_|⟨z,l⟩⟩⟩
 ·exact l7 _
 ·cases x<;>exact l7 _
 ·cases x with
  | pointer p=>exact b0C ts t y (h _ (by simp))
  | _=>exact l7 _
 ·cases x<;>exact l7 _
theorem eK(t:TypeId){x y:Value}(hx:VP Z x)(hy:VP Z y):Sf Z P (VP Z) (movedNumber t x y):=by
 unfold movedNumber;refine Sf.bind (o6 t) λd _=>?_;refine P5 _ (CO _ _ trivial) ?_
 ·split
  ·refine Sf.bind (H5 hx.fO) λp hp=>?_;obtain⟨a,l⟩:=p;refine Sf.bind (UO _ _ ((AP.nil.push (.ptr _ hp)).push hy)) λv hv=>?_;split
   ·exact P1 hv.fO _
   ·exact Sf.pure hv
  ·exact UO _ _ ((AP.nil.push hx).push hy)
theorem a8y(t:TypeId){x y:Value}(hx:VP Z x)(hy:VP Z y):Sf Z P (VP Z) (movedPointer t x y):=by
 unfold movedPointer;split
 ·refine Sf.bind (P2 hx.fO) λo _=>?_;split
  ·exact I4 _ trivial
  ·exact UO _ _ ((AP.nil.push hx).push hy)
 ·exact UO _ _ ((AP.nil.push hx).push hy)
theorem Ys{a b:Addr}(ha:Z.D a.block)(hb:Z.D b.block):Sf Z P (λ_=>True) (Op.twoPlaces a b):=by
 unfold Op.twoPlaces;refine Sf.bind F9 λ_ _=>?_;split
 ·exact CO _ _ trivial
 ·exact Sf.bind (H_ ha) λ_ _=>Sf.bind (H_ hb) λ_ _=>Sf.pure trivial
theorem b6j(k:IntKind){a b:Addr}(ha:Z.D a.block)(hb:Z.D b.block):Sf Z P (VP Z) (Op.addrSub k a b):=Sf.bind (Ys ha hb) λ_ _=>Sf.pure (.int _ _)
theorem UC(op:BinOp){a b:Addr}(ha:Z.D a.block)(hb:Z.D b.block):Sf Z P (VP Z) (Op.addrCmp op a b):=by
 unfold Op.addrCmp;refine Sf.bind (Ys ha hb) λr _=>?_;obtain⟨x,y⟩:=r;dsimp only;split<;>first|exact Sf.pure (.bool _)|exact I4 _ trivial
theorem cB(k:IntKind){a:Addr}(ha:Z.D a.block)(n:Int):Sf Z P (VP Z) (Op.addrMod k a n):=by
 unfold Op.addrMod;refine Sf.bind (Y7 _) λs _=>?_;split
 ·refine Sf.bind (J4 _) λi _=>?_;dsimp only;split
  ·exact I4 _ trivial
  ·exact Sf.bind (H_ ha) λ_ _=>Sf.pure (.int _ _)
 ·exact I4 _ trivial
theorem c2E(hP:POK Z P)(op:BinOp)(t:TypeId){x y:Value}(hx:VP Z x)(hy:VP Z y):Sf Z P (VP Z) (binOp op t x y):=by
 unfold binOp;split
 ·exact Bw hP _ _ _ _ _
 ·exact Bw hP _ _ _ _ _
 ·split
  ·exact l7 _
  ·split<;>first|exact PC _ _ _ _|exact b9c hP _ _ _ _|exact M7 _ _ _ _|exact b9b _ _ _
 ·split
  ·exact l7 _
  ·split<;>first|exact ZD _ _ _ _|exact Pe _ _ _ _
 ·split
  ·exact l7 _
  ·exact b2T _ _ _ _ _ _
 ·exact cS _ _ _
 ·exact Sf.bind (ZM hP _ hx hy) λ_ _=>Sf.pure (.bool _)
 ·exact Sf.bind (ZM hP _ hx hy) λ_ _=>Sf.pure (.bool _)
 ·refine Sf.bind (o6 _) λ_ _=>?_;split
  ·exact a8y _ hx hy
  ·exact eK _ hx hy
 ·exact eK _ hy hx
 ·exact eK _ hx (.int _ _)
 ·exact Sf.bind (H5 hx.fO) λ_ hp=>Sf.bind (H5 hy.fO) λ_ hq=>b6j _ hp hq
 ·exact Sf.bind (H5 hx.fO) λ_ hp=>Sf.bind (H5 hy.fO) λ_ hq=>UC _ hp hq
 ·exact Sf.bind (H5 hx.fO) λ_ hp=>Sf.bind (H5 hy.fO) λ_ hq=>UC _ hp hq
 ·exact Sf.bind (H5 hx.fO) λ_ hp=>Sf.bind (H5 hy.fO) λ_ hq=>UC _ hp hq
 ·exact Sf.bind (H5 hx.fO) λ_ hp=>Sf.bind (H5 hy.fO) λ_ hq=>UC _ hp hq
 ·exact Sf.bind (H5 hx.fO) λ_ hp=>cB _ hp _
 ·exact Sf.bind (H5 hx.fO) λ_ hp=>cB _ hp _
 ·exact Sf.bind (H5 hy.fO) λ_ hp=>cB _ hp _
 ·exact I4 _ trivial
 ·exact I4 _ trivial
 ·exact l7 _
theorem a7s{x:Value}(hx:VP Z x):Sf Z P (VP Z) (Conv.bytesToString x):=by
 unfold Conv.bytesToString
 cases hx with
 | gy=>exact Sf.pure (.string _)
 | slice a n c ha=>
  refine Sf.bind (UQ ha _) λl _=>Sf.bind (R:=λ_=>True) (Qz (I:=λ_=>True) _ trivial λv _ b _=>?_) λr _=>Sf.pure (.string _);split
  ·exact Sf.pure trivial
  ·exact l7 _
 | _=>exact l7 _
theorem a7t{x:Value}(hx:VP Z x):Sf Z P (VP Z) (Conv.runesToString x):=by
 unfold Conv.runesToString
 cases hx with
 | gy=>exact Sf.pure (.string _)
 | slice a n c ha=>
  refine Sf.bind (UQ ha _) λl _=>Sf.bind (R:=λ_=>True) (Qz (I:=λ_=>True) _ trivial λv _ b _=>?_) λr _=>Sf.pure (.string _);split
  ·exact Sf.pure trivial
  ·exact l7 _
 | _=>exact l7 _
theorem ZL(s:ByteArray):AP Z (s.data.map λb=>.int .u8 b.toNat):=λx hx=>by
 obtain⟨b,_,rfl⟩:=gI.1 hx;exact .int _ _
theorem a7u(e:TypeId)(s:ByteArray):Sf Z P (VP Z) (Conv.stringToBytes e s):=by
 unfold Conv.stringToBytes;refine Sf.bind (O1 _) λc _=>Sf.bind (zG _ ((ZL s).append (AP.replicate _ (.int _ _)))) λa ha=>Sf.bind (eM _) λ_ _=>Sf.pure (.slice _ _ _ ha)
theorem c2F(s:ByteArray):∀(n i:Nat)(acc:Array Value),AP Z acc->AP Z (Conv.runesFrom s n i acc):=by
 intro n
 induction n with
 | zero=>intro i acc h;exact h
 | succ n ih=>
  intro i acc h;unfold Conv.runesFrom;split
  ·exact ih _ _ (h.push (.int _ _))
  ·exact h
theorem a7v(e:TypeId)(s:ByteArray):Sf Z P (VP Z) (Conv.stringToRunes e s):=by
 unfold Conv.stringToRunes;exact Sf.bind (O1 _) λc _=>Sf.bind (zG _ ((c2F s _ _ _ AP.nil).append (AP.replicate _ (.int _ _)))) λa ha=>Sf.pure (.slice _ _ _ ha)
theorem J2{a:Addr}(ha:Z.D a.block):Sf Z P (λa=>Z.D a.block) (Conv.seenAt a):=by
 unfold Conv.seenAt;refine Sf.bind (Ul ha) λo ho=>?_;split
 ·rename_i s u;have hs:=ho _ _ rfl;dsimp only;split
  ·exact Sf.pure hs
  ·split
   ·exact I4 _ trivial
   ·refine Sf.bind F9 λp _=>?_;split
    ·refine Sf.bind (Y7 _) λq _=>?_;split
     ·split
      ·exact I4 _ trivial
      ·split
       ·exact Sf.pure hs
       ·exact I4 _ trivial
     ·exact I4 _ trivial
    ·exact I4 _ trivial
 ·exact Sf.pure ha
theorem bm(t u:TypeId){x:Value}(hx:VP Z x):Sf Z P (VP Z) (Conv.unsafePointer t u x):=by
 unfold Conv.unsafePointer;refine Sf.bind (o6 _) λd _=>Sf.bind (o6 _) λe _=>?_;split
 ·exact Sf.pure hx
 ·refine Sf.bind (J2 hx.fO) λs hs=>Sf.bind (b59 hs) λc _=>Sf.bind (J7 _) λn _=>?_;exact P5 _ (Sf.bind (X0 (.view _ _ hs)) λr hr=>Sf.pure (.ptr _ hr)) (Sf.pure (.ptr _ hs))
 ·exact Sf.pure hx
 ·refine Sf.bind (J2 hx.fO) λs hs=>Sf.bind (J7 _) λn _=>Sf.bind (eL _ _ _) λb _=>?_;split
  ·exact Sf.pure (.ptr _ hs)
  ·refine Sf.bind (Y7 _) λq _=>?_;split
   ·refine Sf.bind F9 λp _=>Sf.bind F9 λp _=>?_;split
    ·exact I4 _ trivial
    ·exact Sf.bind (X0 (.view _ _ hs)) λr hr=>Sf.pure (.ptr _ hr)
   ·exact I4 _ trivial
 ·exact Sf.pure hx
 ·exact Sf.pure (.int _ _)
 ·exact P1 hx.fO _
 ·exact I4 _ trivial
 ·exact I4 _ trivial
 ·exact I4 _ trivial
 ·exact l7 _
theorem b6k(t u:TypeId){x:Value}(hx:VP Z x):Sf Z P (VP Z) (convert t u x):=by
 unfold convert;refine Sf.bind (o6 _) λd _=>Sf.bind (o6 _) λe _=>?_;split
 ·exact Sf.pure (.int _ _)
 ·exact Sf.pure (.float _ _)
 ·exact b0B _ _ _
 ·exact Vt _ _ _
 ·unfold Conv.complexToComplex;refine Sf.bind (Vt _ _ _) λv _=>?_;split
  ·refine Sf.bind (Vt _ _ _) λv _=>?_;split
   ·exact Sf.pure (.complex _ _ _)
   ·exact l7 _
  ·exact l7 _
 ·exact Sf.pure (.string _)
 ·exact Sf.pure hx
 ·refine Sf.bind (o6 _) λ_ _=>?_;split
  ·exact a7u _ _
  ·exact a7v _ _
  ·exact l7 _
 ·refine Sf.bind (o6 _) λ_ _=>?_;split
  ·exact Sf.bind (eM _) λ_ _=>Sf.pure hx
  ·exact I4 _ trivial
 ·refine Sf.bind (o6 _) λ_ _=>?_;split
  ·exact a7s hx
  ·exact a7t hx
  ·exact l7 _
 ·exact bm _ _ hx
 ·exact bm _ _ hx
 ·exact I4 _ trivial
 ·exact I4 _ trivial
end
end Go.Zn
