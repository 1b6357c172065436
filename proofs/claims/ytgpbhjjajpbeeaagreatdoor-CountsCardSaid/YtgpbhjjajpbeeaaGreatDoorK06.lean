/- A part of what the last file proves. -/
import Derived.Test.YtgpbhjjajpbeeaaGreatDoorK03
import Derived.Laws.Sem
set_option linter.all false
set_option maxHeartbeats 4000000
namespace Go.Zn
section
variable{Z:Zone}{P:Program}
structure POK(Z:Zone)(P:Program):Prop where
 zero:∀t i z,P.info? t=some i->i.zero=some z->VP Z z
 handle:Z.D P.globals.size
 methods:∀t i,Z.T t->P.info? t=some i->∀m∈i.methods,Z.N m.name->∀f p,m.func=some (f,p)->Z.F f
theorem Sf.any{α:Type}{Q:α->Prop}{s:Sem α}(h:Sf Z P Q s):Sf Z P (fun _=>True) s:=h.mono fun _ _=>trivial
theorem a5u{a:Addr}(h:Z.D a.block):Sf Z P (VP Z) (load a):=⟨h,fun _ hv=>hv⟩
theorem c0w{a:Addr}(h:Z.D a.block):Sf Z P (VP Z) (load a .atomic):=⟨h,fun _ hv=>hv⟩
theorem c0x{a:Addr}(h:Z.D a.block){v:Value}(hv:VP Z v):Sf Z P (fun _=>True) (store a v):=⟨rfl,h,hv,trivial⟩
theorem N7{o:Obj}(h:ObjP Z o):Sf Z P Z.D (newObj o):=⟨h,fun _ hr=>hr⟩
theorem P8(r:Nat):Sf Z P (fun _=>True) (shape r):=fun _=>trivial
theorem a3T(a:Addr)(n:Nat):Sf Z P (fun _=>True) (freeze a n):=trivial
theorem a2p(a:Addr):Sf Z P (fun _=>True) (frozen a):=fun _=>trivial
theorem L9{r:Nat}(h:Z.D r):Sf Z P (ObjP Z) (getObj r):=⟨h,fun _ ho=>ho⟩
theorem R6{r:Nat}(h:Z.D r){o:Obj}(ho:ObjP Z o):Sf Z P (fun _=>True) (setObj r o):=⟨h,ho,trivial⟩
theorem H8(q:Question):Sf Z P (fun _=>True) (choose q):=fun _=>trivial
theorem c3R:Sf Z P (fun _=>True) (sys .env):=⟨rfl,fun _=>trivial⟩
theorem y9:Sf Z P (fun p=>p=P) program:=rfl
theorem c2e{m:Mark}(h:MarkOK m):Sf Z P (fun _=>True) (mark m):=⟨h,trivial⟩
theorem j3{α:Type}{Q:α->Prop}(x:String):Sf Z P Q (stuck x:Sem α):=trivial
theorem D7{α:Type}{Q:α->Prop}(x:Unsupported)(h:HaltOK (.unsupported x)):Sf Z P Q (unsupported x:Sem α):=h
theorem X6{α:Type}{Q:α->Prop}(x:Value):Sf Z P Q (goPanic x:Sem α):=trivial
theorem a2Q(n:Nat):Sf Z P (fun _=>True) (askRoom n):=by
 unfold askRoom;split
 ·exact c2e trivial
 ·exact Sf.pure trivial
theorem l5(t:TypeId):Sf Z P (fun _=>True) (underlying t):=by
 unfold underlying;refine Sf.bind y9 ?_;rintro _ rfl;split
 ·exact Sf.pure trivial
 ·exact j3 _
theorem F6(t:TypeId):Sf Z P (fun i=>P.info? t=some i) (typeInfo t):=by
 unfold typeInfo;refine Sf.bind y9 ?_;rintro _ rfl;split
 ·rename_i h;exact Sf.pure h
 ·exact j3 _
theorem G6(t:TypeId):Sf Z P (fun _=>True) (sizeOf t):=Sf.bind (F6 t) fun _ _=>trivial
theorem b25(t:TypeId):Sf Z P (fun _=>True) (isAgg t):=by
 unfold isAgg;refine Sf.bind (l5 t) fun a _=>?_;split<;>exact Sf.pure trivial
theorem a2R(t:TypeId):Sf Z P (fun _=>True) (typeStr t):=by
 unfold typeStr;refine Sf.bind (F6 t) fun a _=>?_;dsimp only;split
 ·exact D7 _ trivial
 ·exact Sf.pure trivial
theorem a0n(t:TypeId):Sf Z P (fun _=>True) (elemOf t):=by
 unfold elemOf;refine Sf.bind (l5 t) fun a _=>?_;split
 ·exact Sf.pure trivial
 ·exact j3 _
theorem K9(hP:POK Z P)(t:TypeId):Sf Z P (VP Z) (zeroValue t):=by
 unfold zeroValue;refine Sf.bind (F6 t) fun i hi=>?_;split
 ·rename_i h;exact Sf.pure (hP.zero _ _ _ hi h)
 ·exact D7 _ trivial
theorem add_block(a:Addr)(n:Nat):(a.add n).block=a.block:=by unfold Addr.add;split<;>rfl
theorem a6j{a:Addr}(h:Z.D a.block)(n:Nat):∀(i:Nat)(acc:Array Value),AP Z acc->Sf Z P (AP Z) (loadCellsFrom a i n acc):=by
 induction n with
 | zero=>intro i acc hA;exact Sf.pure hA
 | succ n ih=>
  intro i acc hA;unfold loadCellsFrom;exact Sf.bind (a5u (by rw[add_block];exact h)) fun v hv=>ih _ _ (hA.push hv)
theorem a1k{a:Addr}(h:Z.D a.block)(n:Nat):Sf Z P (AP Z) (loadCells a n):=a6j h n 0 _ AP.nil
theorem a0X{a:Addr}(h:Z.D a.block):∀(l:List Value)(i:Nat),LP Z l->Sf Z P (fun _=>True) (storeCells a l i):=by
 intro l
 induction l with
 | nil=>intro i _;exact Sf.pure trivial
 | cons v l ih=>
  intro i hl;unfold storeCells;exact Sf.bind (c0x (by rw[add_block];exact h) (hl v (by simp))) fun _ _=>ih _ fun x hx=>hl x (by simp[hx])
theorem X7(t:TypeId){a:Addr}(h:Z.D a.block):Sf Z P (VP Z) (loadVar t a):=by
 unfold loadVar;refine Sf.bind (b25 t) fun b _=>?_;split
 ·exact Sf.bind (G6 t) fun n _=>Sf.bind (a1k h _) fun c hc=>Sf.pure (.agg c hc)
 ·exact a5u h
theorem a6Q(t:TypeId){a:Addr}(h:Z.D a.block){v:Value}(hv:VP Z v):Sf Z P (fun _=>True) (storeVar t a v):=by
 unfold storeVar;refine Sf.bind (G6 t) fun n _=>?_;dsimp only;split
 ·exact j3 _
 ·exact a0X h _ _ hv.cells.list
theorem R7(t:TypeId){c:Array Value}(h:AP Z c):Sf Z P (fun a=>Z.D a.block) (newRow t c):=Sf.bind (N7 (.cells _ _ _ h)) fun r hr=>Sf.pure hr
theorem a1r(t:TypeId){v:Value}(h:VP Z v):Sf Z P (fun a=>Z.D a.block) (newVar t v):=R7 t h.cells
theorem V8(t:TypeId){c:Array Value}(h:AP Z c)(off:Nat):Sf Z P (VP Z) (part t c off):=by
 unfold part;refine Sf.bind (b25 t) fun b _=>?_;split
 ·exact Sf.bind (G6 t) fun n _=>Sf.pure (.agg _ (h.extract _ _))
 ·split
  ·rename_i e;exact Sf.pure (h.get e)
  ·exact j3 _
theorem b7O(hP:POK Z P)(t:TypeId):VP Z (typeHandle P t):=.ptr ⟨P.globals.size,t,none⟩ hP.handle
theorem l8(hP:POK Z P){α:Type}{Q:α->Prop}(e:RuntimeError):Sf Z P Q (runtimePanic e:Sem α):=by
 unfold runtimePanic;refine Sf.bind y9 ?_;rintro p rfl
 cases e with
 | typeAssertion i c a m=>
  have hh:∀o:Option TypeId,VP Z (match o with|some t=>typeHandle p t|none=>.pointer none):=by
   intro o;cases o
   ·exact .pnil
   ·exact b7O hP _
  refine Sf.bind (a0n _) fun x _=>Sf.bind (a1r _ (.agg _ ?_)) fun _ _=>X6 _
  exact(((AP.nil.push (hh i)).push (hh c)).push (hh (some a))).push (.string _)
 | panicNil=>exact Sf.bind (a0n _) fun x _=>Sf.bind (a1r _ (.agg _ AP.nil)) fun _ _=>X6 _
 | _=>exact X6 _
theorem O0(hP:POK Z P){α:Type}{Q:α->Prop}(k:IntKind)(x y:Int)(c:BoundsCode):Sf Z P Q (boundsPanic k x y c:Sem α):=by
 unfold boundsPanic;dsimp only;split
 ·exact Sf.bind (R:=fun _=>True) (Sf.bind (R:=fun _=>True) (H8 _) fun _ _=>Sf.pure trivial) fun _ _=>l8 hP _
 ·exact Sf.bind (R:=fun _=>True) (Sf.pure trivial) fun _ _=>l8 hP _
theorem a2S(v:Value):Sf Z P (fun _=>True) (asIntOf v):=by
 unfold asIntOf;split
 ·exact Sf.pure trivial
 ·exact D7 _ trivial
 ·exact j3 _
theorem a06(v:Value):Sf Z P (fun _=>True) (asInt v):=Sf.bind (a2S v) fun _ _=>Sf.pure trivial
theorem a3U(v:Value):Sf Z P (fun _=>True) (asBool v):=by
 unfold asBool;split
 ·exact Sf.pure trivial
 ·exact j3 _
theorem c0y{v:Value}(h:VP Z v):Sf Z P (AP Z) (asAgg v):=by
 cases h<;>first|exact Sf.pure (by assumption)|exact j3 _
theorem a1s(hP:POK Z P){v:Value}(h:VP Z v):Sf Z P (fun a=>Z.D a.block) (asAddr v):=by
 cases h with
 | pnil=>exact l8 hP .nilDeref
 | ptr a h=>exact Sf.pure h
 | _=>exact j3 _
theorem a07{v:Value}(h:VP Z v):Sf Z P (fun a=>Z.D a.block) (Instr.sureAddr v):=by
 cases h with
 | ptr a h=>exact Sf.pure h
 | _=>exact j3 _
theorem a3V{r:Nat}(h:Z.D r):Sf Z P (fun o=>∀a t,o=some (a,t)->Z.D a.block) (viewAt r):=by
 unfold viewAt;refine Sf.bind (P8 r) fun s _=>?_;split
 ·exact Sf.pure (by simp)
 ·refine Sf.bind (L9 h) fun o ho=>?_
  cases ho with
  | view a t h=>exact Sf.pure (by rintro _ _ ⟨⟩;exact h)
  | _=>exact Sf.pure (by simp)
theorem a6R{r:Nat}(h:Z.D r):Sf Z P (fun o=>∀a t,o=some (a,t)->Z.D a.block) (numberAt r):=by
 unfold numberAt;refine Sf.bind (P8 r) fun s _=>?_;split
 ·exact Sf.pure (by simp)
 ·refine Sf.bind (L9 h) fun o ho=>?_
  cases ho with
  | number a t h=>exact Sf.pure (by rintro _ _ ⟨⟩;exact h)
  | _=>exact Sf.pure (by simp)
theorem D5{a:Addr}(h:Z.D a.block):Sf Z P (fun p=>Z.D p.1.block) (behindNumber a):=by
 unfold behindNumber;refine Sf.bind (a6R h) fun o ho=>Sf.pure ?_
 cases o with
 | none=>exact h
 | some p=>exact ho _ _ rfl
theorem a6S{a:Addr}(h:Z.D a.block)(l:Bool):Sf Z P (VP Z) (asNumber a l):=Sf.bind (N7 (.number _ _ h)) fun r hr=>Sf.pure (.ptr ⟨r,0,none⟩ hr)
theorem a6k{a:Addr}(h:Z.D a.block):Sf Z P (fun _=>True) (noView a):=by
 unfold noView;refine Sf.bind (a3V h) fun s _=>?_;split
 ·exact D7 _ trivial
 ·exact Sf.pure trivial
theorem a0O(a:Addr):Sf Z P (fun _=>True) (markStringish a):=by
 unfold markStringish;refine Sf.bind (P8 _) fun s _=>?_;split
 ·exact a3T _ _
 ·exact Sf.pure trivial
theorem a5v(a:Addr):Sf Z P (fun _=>True) (stringish a):=by
 unfold stringish;refine Sf.bind (a2p _) fun b _=>?_;split
 ·exact Sf.pure trivial
 ·refine Sf.bind (P8 _) fun s _=>?_;split
  ·exact a2p _
  ·exact Sf.pure trivial
theorem b26(a b:Addr):Sf Z P (fun _=>True) (mayBeOne a b):=by
 unfold mayBeOne;refine Sf.bind (a5v _) fun _ _=>Sf.bind (a5v _) fun _ _=>?_;dsimp only;exact Sf.bind (R:=fun _=>True) (Sf.bind (P8 _) fun _ _=>Sf.pure trivial) fun _ _=>Sf.bind (R:=fun _=>True) (Sf.bind (P8 _) fun _ _=>Sf.pure trivial) fun _ _=>Sf.pure trivial
theorem a6T{a b:Addr}(ha:Z.D a.block)(hb:Z.D b.block):Sf Z P (fun _=>True) (sameAddr a b):=by
 unfold sameAddr;split
 ·exact Sf.pure trivial
 refine Sf.bind (a2p _) fun _ _=>Sf.bind (a2p _) fun _ _=>?_;have rest:∀x:Bool,Sf Z P (fun _=>True) (if x then(do return (<-choose (.extern "sameAddr.stringBytes" 2))==1:Sem Bool) else pure false):=fun x=>by
  split
  ·exact Sf.bind (H8 _) fun _ _=>Sf.pure trivial
  ·exact Sf.pure trivial
 split
 ·exact D7 _ trivial
 ·refine Sf.bind (a6k ha) fun _ _=>Sf.bind (a6k hb) fun _ _=>Sf.bind (b26 _ _) fun c _=>?_;exact rest c
theorem b4N{r:Nat}(h:Z.D r):Sf Z P (fun _=>True) (cellsIn r):=by
 unfold cellsIn;refine Sf.bind (P8 r) fun s _=>?_;split
 ·exact Sf.pure trivial
 ·refine Sf.bind (L9 h) fun o ho=>?_;split<;>exact Sf.pure trivial
theorem a0P{a:Addr}(h:Z.D a.block):Sf Z P (fun _=>True) (byteOf a):=by
 unfold byteOf;split
 ·exact Sf.pure trivial
 refine Sf.bind y9 ?_;rintro p rfl;refine Sf.bind (a6k h) fun _ _=>Sf.bind (P8 _) fun s _=>?_;split
 ·dsimp only;split
  ·exact Sf.pure trivial
  ·split
   ·exact Sf.pure trivial
   ·exact j3 _
 ·exact j3 _
theorem b7P{a:Addr}(h:Z.D a.block)(c b:Nat):Sf Z P (fun a=>Z.D a.block) (partAt a c b):=by
 unfold partAt;refine Sf.bind (a0P h) fun _ _=>Sf.bind (a0P h) fun _ _=>Sf.pure ?_;split<;>exact h
theorem a19{a:Addr}(h:Z.D a.block)(f:Field):Sf Z P (fun a=>Z.D a.block) (fieldPlace a f):=by
 unfold fieldPlace;refine Sf.bind (G6 _) fun _ _=>?_;split
 ·exact b7P h _ _
 ·exact Sf.pure (by rw[add_block];exact h)
theorem a1H(a:Addr)(u:TypeId)(n:Nat):Sf Z P (fun _=>True) (variablesAt a u n):=by
 unfold variablesAt;refine Sf.bind y9 fun _ _=>Sf.bind (P8 _) fun _ _=>?_;split<;>exact Sf.pure trivial
theorem a5w{a:Addr}(h:Z.D a.block)(n:Nat):∀acc,Sf Z P (fun _=>True) (loadBytes a acc n):=by
 induction n generalizing a with
 | zero=>intro acc;exact Sf.pure trivial
 | succ n ih=>
  intro acc;unfold loadBytes;refine Sf.bind (a5u h) fun v _=>?_;split
  ·exact ih (by rw[add_block];exact h) _
  ·exact j3 _
def c0z{β:Type}(I:β->Prop):ForInStep β->Prop
 | .yield b=>I b
 | .done b=>I b
theorem b27{α β:Type}{I:β->Prop}(l:List α){b:β}(hb:I b){f:α->β->Sem (ForInStep β)}(h:∀x∈l,∀b,I b->Sf Z P (c0z I) (f x b)):Sf Z P I (forIn l b f):=by
 induction l generalizing b with
 | nil=>exact Sf.pure hb
 | cons x l ih=>
  rw[List.forIn_cons];refine Sf.bind (h x (by simp) b hb) fun s hs=>?_
  cases s with
  | done b=>exact Sf.pure hs
  | yield b=>exact ih hs fun y hy=>h y (by simp[hy])
theorem a2q{α β:Type}{I:β->Prop}(l:Array α){b:β}(hb:I b){f:α->β->Sem (ForInStep β)}(h:∀x∈l,∀b,I b->Sf Z P (c0z I) (f x b)):Sf Z P I (forIn l b f):=by
 rw[<-Array.forIn_toList];exact b27 _ hb fun x hx=>h x (by simpa using hx)
theorem a6l{β:Type}{I:β->Prop}(r:Std.Legacy.Range){b:β}(hb:I b){f:Nat->β->Sem (ForInStep β)}(h:∀x,∀b,I b->Sf Z P (c0z I) (f x b)):Sf Z P I (forIn r b f):=by
 rw[Std.Legacy.Range.forIn_eq_forIn_range'];exact b27 _ hb fun x _=>h x
theorem b5S{α β:Type}{I:β->Prop}(l:Array α)(f:α->Sem β)(h:∀x∈l,Sf Z P I (f x)):Sf Z P (fun r=>∀y∈r,I y) (l.mapM f):=by
 have key:∀l:List α,(∀x∈l,Sf Z P I (f x))->Sf Z P (fun r=>∀y∈r,I y) (l.mapM f):=by
  intro l
  induction l with
  | nil=>intro _;exact Sf.pure (by simp)
  | cons x l ih=>
   intro h;rw[List.mapM_cons];refine Sf.bind (h x (by simp)) fun y hy=>Sf.bind (ih fun z hz=>h z (by simp[hz])) fun ys hys=>Sf.pure ?_;intro z hz;rcases List.mem_cons.1 hz with rfl|hz
   ·exact hy
   ·exact hys z hz
 rw[Array.mapM_eq_mapM_toList];show Sf Z P _ (Functor.map List.toArray _);rw[map_eq_pure_bind];refine Sf.bind (key l.toList fun x hx=>h x (by simpa using hx)) fun ys hys=>Sf.pure ?_;intro y hy;exact hys y (by simpa using hy)
end
section
variable{Z:Zone}{P:Program}
theorem c0A(hP:POK Z P)(t:TypeId):Sf Z P (VP Z) (Instr.alloc t true (.tuple #[])):=by
 unfold Instr.alloc;exact Sf.bind (K9 hP t) fun z hz=>Sf.bind (a1r _ hz) fun a ha=>Sf.pure (.ptr _ ha)
theorem c3S(t:TypeId){v:Value}(h:VP Z v):Sf Z P (VP Z) (Instr.box t v):=Sf.bind (a1r _ h) fun a ha=>Sf.pure (.ptr _ ha)
theorem c0B(off:Nat)(l:List (Value×Nat))(h:∀x∈l,VP Z x.1):∀c:Array Value,AP Z c->AP Z (l.foldl (fun cs(x:Value×Nat)=>cs.setIfInBounds (off+x.2) x.1) c):=by
 induction l with
 | nil=>intro c hc;exact hc
 | cons x l ih=>intro c hc;exact ih (fun y hy=>h y (by simp[hy])) _ (hc.set _ (h x (by simp)))
theorem a7D(place:Nat->Option (Nat×Nat)):∀(l:List (Nat×Value))(c d:Array Value),(∀x∈l,VP Z x.2)->AP Z c->Instr.fill place c l=some d->AP Z d:=by
 intro l
 induction l with
 | nil=>intro c d _ hc h;injection h with h;exact h▸hc
 | cons x l ih=>
  intro c d hl hc h;obtain⟨i,v⟩:=x;unfold Instr.fill at h;split at h
  ·cases h
  ·split at h
   ·cases h
   ·refine ih _ _ (fun y hy=>hl y (by simp[hy])) ?_ h;rw[<-Array.foldl_toList,Array.toList_zipIdx];refine c0B _ _ (fun y hy=>?_) c hc;obtain⟨y1,y2⟩:=y;have hv:VP Z v:=hl (i,v) (by simp);have:=List.mem_zipIdx hy;exact hv.cells.list y1 (this.2.2▸List.getElem_mem _)
theorem c0C(hP:POK Z P)(t:TypeId){parts:Array (Nat×Value)}(h:∀x∈parts,VP Z x.2):Sf Z P (VP Z) (Instr.build t parts):=by
 unfold Instr.build;refine Sf.bind (K9 hP t) fun z hz=>?_;dsimp only;refine Sf.bind (l5 t) fun d _=>?_;have hl:∀x∈parts.toList,VP Z x.2:=fun x hx=>h x (by simpa using hx);split
 ·refine Sf.bind (b5S (I:=fun _=>True) _ _ fun f _=>Sf.bind (G6 _) fun _ _=>Sf.pure trivial) fun places _=>?_;split
  ·rename_i e;exact Sf.pure (.agg _ (a7D _ _ _ _ hl hz.cells e))
  ·exact j3 _
 ·refine Sf.bind (G6 _) fun size _=>?_;split
  ·rename_i e;exact Sf.pure (.agg _ (a7D _ _ _ _ hl hz.cells e))
  ·exact j3 _
 ·exact j3 _
theorem b4O:VP Z (default:Value):=.bool _
theorem a3W{c:Array Value}(h:AP Z c)(n:Nat):AP Z ((Array.range n).map (c[· % c.size]!)):=by
 intro x hx;obtain⟨i,hi,rfl⟩:=Array.mem_map.1 hx;by_cases hlt:i%c.size<c.size
 ·rw[getElem!_pos c (i%c.size) hlt];exact h _ (Array.getElem_mem _)
 ·rw[getElem!_neg c (i%c.size) hlt];exact b4O
theorem a9u(hP:POK Z P)(t:TypeId)(len:Nat){parts:Array (Nat×Value)}(h:∀x∈parts,VP Z x.2):Sf Z P (VP Z) (Instr.buildSlice t len parts):=by
 unfold Instr.buildSlice;refine Sf.bind (l5 t) fun d _=>?_;have hl:∀x∈parts.toList,VP Z x.2:=fun x hx=>h x (by simpa using hx);split
 ·refine Sf.bind (G6 _) fun size _=>?_;dsimp only;split
  ·exact D7 _ trivial
  ·split
   ·refine Sf.bind (R:=AP Z) (Sf.pure AP.nil) fun z hz=>?_;split
    ·rename_i e;exact Sf.bind (R7 _ (a7D _ _ _ _ hl (a3W hz _) e)) fun a ha=>Sf.pure (.slice _ _ _ ha)
    ·exact j3 _
   ·refine Sf.bind (K9 hP _) fun v hv=>Sf.bind (R:=AP Z) (Sf.pure hv.cells) fun z hz=>?_;split
    ·rename_i e;exact Sf.bind (R7 _ (a7D _ _ _ _ hl (a3W hz _) e)) fun a ha=>Sf.pure (.slice _ _ _ ha)
    ·exact j3 _
 ·exact j3 _
theorem b7Q(t:TypeId){a:Value}(h:VP Z a):Sf Z P (VP Z) (Instr.loadAt t a):=Sf.bind (a07 h) fun _ ha=>X7 t ha
theorem b4P(t:TypeId){a v:Value}(h:VP Z a)(hv:VP Z v):Sf Z P (fun _=>True) (Instr.storeAt t a v):=Sf.bind (a07 h) fun _ ha=>a6Q t ha hv
theorem b4Q(s:TypeId){a:Value}(h:VP Z a)(f:Nat):Sf Z P (VP Z) (Instr.fieldAt s a f):=by
 unfold Instr.fieldAt;refine Sf.bind (l5 s) fun d _=>?_;split
 ·split
  ·exact Sf.bind (a07 h) fun a ha=>Sf.bind (a19 ha _) fun b hb=>Sf.pure (.ptr _ hb)
  ·exact j3 _
 ·exact j3 _
theorem b4R(hP:POK Z P)(t:TypeId){x:Value}(h:VP Z x)(i:Value):Sf Z P (VP Z) (Instr.indexAt t x i):=by
 unfold Instr.indexAt;refine Sf.bind (a2S i) fun ki _=>?_;obtain⟨k,i⟩:=ki;dsimp only;refine Sf.bind (l5 t) fun d _=>?_;split
 ·refine Sf.bind (a07 h) fun a ha=>Sf.bind (R:=fun r:Option Addr×Nat×TypeId=>∀a,r.1=some a->Z.D a.block) (Sf.pure (by rintro _ ⟨⟩;exact ha)) fun r hr=>Sf.bind (l5 t) fun d _=>?_;split
  ·rename_i e;split
   ·exact Sf.bind (G6 _) fun n _=>Sf.pure (.ptr _ (by rw[add_block];exact hr _ e))
   ·repeat' first|exact D7 _ trivial|exact O0 hP _ _ _ _|split
  ·exact O0 hP _ _ _ _
 ·refine Sf.bind (R:=fun r:Option Addr×Nat×TypeId=>∀a,r.1=some a->Z.D a.block) (Sf.pure (by
   rename_i base len c
   cases h with
   | snil=>simp
   | slice a _ _ ha=>rintro _ ⟨⟩;exact ha)) fun r hr=>Sf.bind (l5 t) fun d _=>?_
  split
  ·rename_i e;split
   ·exact Sf.bind (G6 _) fun n _=>Sf.pure (.ptr _ (by rw[add_block];exact hr _ e))
   ·repeat' first|exact D7 _ trivial|exact O0 hP _ _ _ _|split
  ·exact O0 hP _ _ _ _
 ·exact j3 _
theorem a9v(hP:POK Z P)(x:Value)(y:Nat)(c:BoundsCode):Sf Z P (fun _=>True) (Instr.sliceBound x y c):=by
 unfold Instr.sliceBound;refine Sf.bind (a2S x) fun ki _=>?_;obtain⟨k,i⟩:=ki;dsimp only;split
 ·exact Sf.pure trivial
 ·exact O0 hP _ _ _ _
theorem a0E(hP:POK Z P)(s:Bool)(len cap:Nat)(low high max:Option Value):Sf Z P (fun _=>True) (Instr.sliceBounds s len cap low high max):=by
 unfold Instr.sliceBounds;dsimp only
 repeat' first
  | with_reducible exact Sf.pure trivial
  | with_reducible refine Sf.bind (a9v hP _ _ _) fun _ _=>?_
  | with_reducible refine Sf.bind (R:=fun _=>True) (Sf.pure trivial) fun _ _=>?_
  | with_reducible refine Sf.bind (R:=fun _=>True) (j3 _) fun _ _=>?_
  | split
theorem c0D(hP:POK Z P)(t:TypeId){x:Value}(hx:VP Z x)(low high max:Option Value):Sf Z P (VP Z) (Instr.slice t x low high max):=by
 unfold Instr.slice;refine Sf.bind (l5 t) fun d _=>?_;split
 ·rename_i s;have main:Sf Z P (VP Z) (do let (l,h,_) <-Instr.sliceBounds false s.size s.size low high none;pure (.string (s.extract l h))):=Sf.bind (a0E hP _ _ _ _ _ _) fun r _=>Sf.pure (.string _);split
  ·exact j3 _
  ·exact main
 ·refine Sf.bind (a0E hP _ _ _ _ _ _) fun r _=>?_;obtain⟨l,h,m⟩:=r;refine Sf.bind (G6 _) fun n _=>Sf.pure ?_
  cases hx with
  | snil=>split<;>exact .snil _ _
  | slice a _ _ ha=>
   split
   ·exact .slice _ _ _ ha
   ·exact .slice _ _ _ (by rw[add_block];exact ha)
 ·refine Sf.bind (a1s hP hx) fun a ha=>Sf.bind (l5 _) fun d _=>?_;split
  ·refine Sf.bind (a0E hP _ _ _ _ _ _) fun r _=>?_;obtain⟨l,h,m⟩:=r;refine Sf.bind (G6 _) fun n _=>Sf.pure (.slice _ _ _ ?_);split
   ·exact ha
   ·rw[add_block];exact ha
  ·exact j3 _
 ·exact j3 _
theorem b4S(hP:POK Z P)(t:TypeId){x:Value}(hx:VP Z x)(low high max:Option Value):Sf Z P (VP Z) (Instr.sliceAt t x low high max):=by
 unfold Instr.sliceAt;refine Sf.bind (l5 t) fun d _=>?_;split
 ·refine Sf.bind (a07 hx) fun a ha=>Sf.bind (a0E hP _ _ _ _ _ _) fun r _=>?_;obtain⟨l,h,m⟩:=r;refine Sf.bind (G6 _) fun n _=>Sf.pure (.slice _ _ _ ?_);split
  ·exact ha
  ·rw[add_block];exact ha
 ·exact c0D hP t hx _ _ _
theorem a6m(t:TypeId)(ht:Z.T t){v:Value}(h:VP Z v):Sf Z P (VP Z) (Instr.makeInterface t v):=by
 unfold Instr.makeInterface;refine Sf.bind (l5 t) fun d _=>?_;split
 ·exact j3 _
 ·exact Sf.pure (.iface _ _ ht h)
theorem b28{fn:Fn}(hf:FnP Z fn){a b:Array Value}(ha:AP Z a)(hb:AP Z b):Sf Z P (VP Z) (Instr.makeFunc fn a b):=Sf.pure (.func _ _ _ hf ha hb)
theorem b4T(t:TypeId)(r:Option Value):Sf Z P (VP Z) (Instr.makeMap t r):=by
 unfold Instr.makeMap;have rest:Sf Z P (VP Z) (do pure (.map (some (<-newObj (.map #[] 0))))):=Sf.bind (N7 (.map _ _ (by simp))) fun r hr=>Sf.pure (.map _ hr);split
 ·refine Sf.bind (l5 t) fun d _=>?_;split
  ·exact Sf.bind (a06 _) fun _ _=>rest
  ·exact j3 _
 ·exact rest
theorem b1A(hP:POK Z P)(t:TypeId)(l c:Value):Sf Z P (VP Z) (Instr.makeSlice t l c):=by
 unfold Instr.makeSlice;refine Sf.bind (l5 t) fun d _=>?_;split
 ·refine Sf.bind (a06 _) fun len _=>Sf.bind (a06 _) fun cap _=>Sf.bind (F6 _) fun i _=>?_;dsimp only
  repeat' first
   | with_reducible exact Sf.bind (R7 _ (a3W (by assumption) _)) fun a ha=>Sf.pure (.slice _ _ _ ha)
   | with_reducible refine Sf.bind (R:=fun _=>True) (l8 hP _) fun _ _=>?_
   | with_reducible refine Sf.bind (H8 _) fun _ _=>?_
   | with_reducible refine Sf.bind (a2Q _) fun _ _=>?_
   | with_reducible refine Sf.bind (G6 _) fun _ _=>?_
   | with_reducible refine Sf.bind (K9 hP _) fun v hv=>Sf.bind (R:=AP Z) (Sf.pure hv.cells) fun z hz=>?_
   | with_reducible refine Sf.bind (R:=AP Z) (Sf.pure AP.nil) fun z hz=>?_
   | split
 ·exact j3 _
theorem c0E(t:TypeId){x:Value}(h:VP Z x)(f:Nat):Sf Z P (VP Z) (Instr.field t x f):=by
 unfold Instr.field;refine Sf.bind (l5 t) fun d _=>?_;split
 ·split
  ·exact Sf.bind (c0y h) fun c hc=>V8 _ hc _
  ·exact j3 _
 ·exact j3 _
theorem c0F(hP:POK Z P)(t:TypeId){x:Value}(h:VP Z x)(i:Value):Sf Z P (VP Z) (Instr.index t x i):=by
 unfold Instr.index;refine Sf.bind (a2S i) fun ki _=>?_;obtain⟨k,i⟩:=ki;dsimp only;refine Sf.bind (l5 t) fun d _=>?_;split
 ·split
  ·cases h with
   | agg c hc=>exact Sf.bind (G6 _) fun _ _=>V8 _ hc _
  ·exact O0 hP _ _ _ _
 ·split
  ·exact Sf.pure (.int _ _)
  ·exact O0 hP _ _ _ _
 ·exact j3 _
theorem b4U{x:Value}(h:VP Z x)(i:Nat):Sf Z P (VP Z) (Instr.extract x i):=by
 unfold Instr.extract
 cases h with
 | tuple c hc=>
  dsimp only;split
  ·rename_i e;exact Sf.pure (AP.get hc e)
  ·exact j3 _
 | _=>exact j3 _
theorem b29(hP:POK Z P)(x:Value){Q:Value->Prop}:Sf Z P Q (Instr.panic x):=by
 unfold Instr.panic;split
 ·exact X6 _
 ·refine Sf.bind (R:=fun _=>True) ?_ fun n _=>?_
  ·unfold Instr.panicnil;refine Sf.bind (c3R) fun r _=>?_;split
   ·exact Sf.bind y9 fun _ _=>Sf.pure trivial
   ·exact j3 _
  ·split
   ·exact X6 _
   ·exact l8 hP _
 ·exact j3 _
theorem a9w(hP:POK Z P){x:Value}(h:VP Z x)(t u:TypeId)(ok:Bool):Sf Z P (VP Z) (Instr.typeAssert x t u ok):=by
 unfold Instr.typeAssert;have hh:∀v,VP Z v->Sf Z P (VP Z) (pure (if ok then .tuple #[v,.bool true] else v):Sem Value):=fun v hv=>by
  split
  ·exact Sf.pure (.tuple _ ((AP.nil.push hv).push (.bool _)))
  ·exact Sf.pure hv
 have hf:∀s d m,Sf Z P (VP Z) (if ok then do pure (.tuple #[<-zeroValue u,.bool false]) else runtimePanic (.typeAssertion s d u m):Sem Value):=fun s d m=>by
  split
  ·exact Sf.bind (K9 hP _) fun z hz=>Sf.pure (.tuple _ ((AP.nil.push hz).push (.bool _)))
  ·exact l8 hP _
 dsimp only;refine Sf.bind (l5 _) fun d _=>?_;split
 ·exact hf _ _ _
 ·refine Sf.bind (F6 _) fun i _=>?_;split
  ·exact hh _ h
  ·exact hf _ _ _
 ·exact hf _ _ _
 ·split
  ·cases h with
   | iface _ _ _ hv=>exact hh _ hv
  ·exact hf _ _ _
 ·exact j3 _
theorem a6U(op:BinOp)(k:IntKind)(x y:Int):Sf Z P (VP Z) (Op.intArith op k x y):=by
 unfold Op.intArith;split<;>first|exact Sf.pure (.int _ _)|exact j3 _
theorem a8H(op:BinOp)(k:IntKind)(x y:Int):Sf Z P (VP Z) (Op.intBits op k x y):=by
 unfold Op.intBits;dsimp only;split<;>first|exact Sf.pure (.int _ _)|exact j3 _
theorem b7R(op:BinOp)(x y:Int):Sf Z P (VP Z) (Op.intCmp op x y):=by
 unfold Op.intCmp;split<;>first|exact Sf.pure (.bool _)|exact j3 _
theorem b7S(hP:POK Z P)(op:BinOp)(k:IntKind)(x y:Int):Sf Z P (VP Z) (Op.intDiv op k x y):=by
 unfold Op.intDiv;split
 ·exact l8 hP _
 ·split<;>first|exact Sf.pure (.int _ _)|exact j3 _
theorem b3a(hP:POK Z P)(op:BinOp)(k:IntKind)(x:Int)(k':IntKind)(y:Int):Sf Z P (VP Z) (Op.shift op k x k' y):=by
 unfold Op.shift;split
 ·exact l8 hP _
 ·dsimp only;split<;>first|exact Sf.pure (.int _ _)|exact j3 _
theorem a3H(op:BinOp)(x y:ByteArray):Sf Z P (fun v=>VP Z v) (Op.stringOp op x y):=by
 unfold Op.stringOp;dsimp only;split
 ·split
  ·exact D7 _ trivial
  ·exact Sf.pure (.string _)
 all_goals first|exact Sf.pure (.bool _)|exact j3 _
theorem a4l(op:BinOp)(k:FloatKind)(x y:Nat):Sf Z P (VP Z) (Op.floatArith op k x y):=by
 unfold Op.floatArith;dsimp only
 repeat' first
  | with_reducible exact Sf.pure (.float _ _)
  | with_reducible refine Sf.bind (H8 _) fun _ _=>?_
  | with_reducible refine Sf.bind (R:=fun _=>True) (Sf.pure trivial) fun _ _=>?_
  | with_reducible refine Sf.bind (R:=fun _=>True) (j3 _) fun _ _=>?_
  | split
theorem a6V(op:BinOp)(k:FloatKind)(x y:Nat):Sf Z P (VP Z) (Op.floatCmp op k x y):=by
 unfold Op.floatCmp;dsimp only;split<;>first|exact Sf.pure (.bool _)|exact j3 _
theorem a9x(k:FloatKind)(b:Nat)(d:IntKind):Sf Z P (VP Z) (Conv.floatToInt k b d):=by
 unfold Conv.floatToInt;dsimp only;split
 ·split
  ·exact Sf.pure (.int _ _)
  ·exact Sf.bind (H8 _) fun _ _=>Sf.pure (.int _ _)
 ·exact Sf.bind (H8 _) fun _ _=>Sf.pure (.int _ _)
theorem a0a(k:FloatKind)(b:Nat)(d:FloatKind):Sf Z P (VP Z) (Conv.floatToFloat k b d):=by
 unfold Conv.floatToFloat;split
 ·exact Sf.pure (.float _ _)
 ·split
  ·exact Sf.bind (H8 _) fun _ _=>Sf.pure (.float _ _)
  ·exact Sf.pure (.float _ _)
  ·dsimp only;split
   ·exact Sf.bind (H8 _) fun _ _=>Sf.pure (.float _ _)
   ·exact Sf.pure (.float _ _)
theorem a3e(src:FloatKind)(x:Nat)(dst:FloatKind):Sf Z P (fun _=>True) (Op.Complex.conv src x dst):=by
 unfold Op.Complex.conv;split
 ·exact Sf.pure trivial
 ·refine Sf.bind (a0a _ _ _) fun v _=>?_;split
  ·exact Sf.pure trivial
  ·exact j3 _
theorem a2r(op:BinOp)(k:FloatKind)(x y:Nat):Sf Z P (fun _=>True) (Op.Complex.arith op k x y):=by
 unfold Op.Complex.arith;refine Sf.bind (a4l _ _ _ _) fun v _=>?_;split
 ·exact Sf.pure trivial
 ·exact j3 _
theorem a5x(op:BinOp)(k:FloatKind)(x y:Nat):Sf Z P (fun _=>True) (Op.Complex.cmp op k x y):=Sf.bind (a6V _ _ _ _) fun v _=>a3U v
theorem b1B(op:BinOp)(k:FloatKind)(a b c d:Nat):Sf Z P (VP Z) (Op.complexOp op k a b c d):=by
 have A:=fun op(x y:Nat)=>a2r (Z:=Z) (P:=P) op .f64 x y;have e4:∀x y:Nat,Sf Z P (fun _=>True) (Op.Complex.mul x y)/\Sf Z P (fun _=>True) (Op.Complex.add x y)/\Sf Z P (fun _=>True) (Op.Complex.sub x y)/\Sf Z P (fun _=>True) (Op.Complex.quo x y):=fun x y=>⟨A _ _ _,A _ _ _,A _ _ _,A _ _ _⟩;have prod:∀a b c d,Sf Z P (fun _=>True) (Op.Complex.product a b c d):=fun a b c d=>by
  unfold Op.Complex.product;exact Sf.bind (e4 _ _).1 fun _ _=>Sf.bind (e4 _ _).1 fun _ _=>Sf.bind (e4 _ _).2.2.1 fun _ _=>Sf.bind (e4 _ _).1 fun _ _=>Sf.bind (e4 _ _).1 fun _ _=>Sf.bind (e4 _ _).2.1 fun _ _=>Sf.pure trivial
 have corr:∀s a b c d,Sf Z P (fun _=>True) (Op.Complex.corrected s a b c d):=fun s a b c d=>by
  unfold Op.Complex.corrected;exact Sf.bind (e4 _ _).1 fun _ _=>Sf.bind (e4 _ _).1 fun _ _=>Sf.bind (e4 _ _).2.1 fun _ _=>Sf.bind (e4 _ _).1 fun _ _=>Sf.bind (e4 _ _).1 fun _ _=>Sf.bind (e4 _ _).1 fun _ _=>Sf.bind (e4 _ _).2.2.1 fun _ _=>Sf.bind (e4 _ _).1 fun _ _=>Sf.pure trivial
 have quot:∀a b c d,Sf Z P (fun _=>True) (Op.Complex.quotient a b c d):=fun a b c d=>by
  unfold Op.Complex.quotient;dsimp only
  repeat' first
   | with_reducible exact Sf.pure trivial
   | with_reducible exact corr _ _ _ _ _
   | with_reducible refine Sf.bind (a5x _ _ _ _) fun _ _=>?_
   | with_reducible refine Sf.bind (e4 _ _).1 fun _ _=>?_
   | with_reducible refine Sf.bind (e4 _ _).2.1 fun _ _=>?_
   | with_reducible refine Sf.bind (e4 _ _).2.2.1 fun _ _=>?_
   | with_reducible refine Sf.bind (e4 _ _).2.2.2 fun _ _=>?_
   | with_reducible refine Sf.bind (R:=fun _=>True) (Sf.pure trivial) fun _ _=>?_
   | split
 unfold Op.complexOp;split
 ·exact Sf.bind (a2r _ _ _ _) fun _ _=>Sf.bind (a2r _ _ _ _) fun _ _=>Sf.pure (.complex _ _ _)
 ·exact Sf.bind (a2r _ _ _ _) fun _ _=>Sf.bind (a2r _ _ _ _) fun _ _=>Sf.pure (.complex _ _ _)
 ·refine Sf.bind (a3e _ _ _) fun _ _=>Sf.bind (a3e _ _ _) fun _ _=>Sf.bind (a3e _ _ _) fun _ _=>Sf.bind (a3e _ _ _) fun _ _=>Sf.bind (R:=fun _=>True) ?_ fun _ _=>Sf.bind (a3e _ _ _) fun _ _=>Sf.bind (a3e _ _ _) fun _ _=>Sf.pure (.complex _ _ _);first|exact prod _ _ _ _|exact quot _ _ _ _
 ·refine Sf.bind (a3e _ _ _) fun _ _=>Sf.bind (a3e _ _ _) fun _ _=>Sf.bind (a3e _ _ _) fun _ _=>Sf.bind (a3e _ _ _) fun _ _=>Sf.bind (R:=fun _=>True) ?_ fun _ _=>Sf.bind (a3e _ _ _) fun _ _=>Sf.bind (a3e _ _ _) fun _ _=>Sf.pure (.complex _ _ _);first|exact prod _ _ _ _|exact quot _ _ _ _
 ·exact Sf.bind (a5x _ _ _ _) fun _ _=>Sf.bind (a5x _ _ _ _) fun _ _=>Sf.pure (.bool _)
 ·exact Sf.bind (a5x _ _ _ _) fun _ _=>Sf.bind (a5x _ _ _ _) fun _ _=>Sf.pure (.bool _)
 ·exact j3 _
theorem c0G(op:UnOp)(x:Value):Sf Z P (VP Z) (Op.unary op x):=by
 unfold Op.unary;split
 ·exact a6U _ _ _ _
 ·exact a8H _ _ _ _
 ·exact Sf.pure (.float _ _)
 ·exact Sf.pure (.complex _ _ _)
 ·exact Sf.pure (.bool _)
 ·exact D7 _ trivial
 ·exact D7 _ trivial
 ·exact j3 _
end
section
variable{Z:Zone}{P:Program}
theorem a2T{α β:Type}{Q:β->Prop}(x:Unsupported)(f:α->Sem β)(h:HaltOK (.unsupported x)):Sf Z P Q ((unsupported x:Sem α) >>= f):=h
theorem J4{α:Type}{Q:α->Prop}(c:Prop)[Decidable c]{s t:Sem α}(h:Sf Z P Q s)(k:Sf Z P Q t):Sf Z P Q (if c then s else t):=by
 split
 ·exact h
 ·exact k
theorem a8I{a b:Option Addr}(ha:∀x,a=some x->Z.D x.block)(hb:∀x,b=some x->Z.D x.block):Sf Z P (fun _=>True) (samePointer a b):=by
 unfold samePointer;split
 ·exact a6T (ha _ rfl) (hb _ rfl)
 ·exact Sf.pure trivial
theorem VP.inPtr{a:Addr}(h:VP Z (.pointer (some a))):Z.D a.block:=by cases h;assumption
theorem VP.inAgg{c:Array Value}(h:VP Z (.agg c)):AP Z c:=by cases h;assumption
theorem VP.inIface{t:TypeId}{v:Value}(h:VP Z (.iface t v)):Z.T t/\VP Z v:=by cases h;exact⟨by assumption,by assumption⟩
theorem b4V(hP:POK Z P):∀(n:Nat)(t:TypeId)(x y:Value),VP Z x->VP Z y->Sf Z P (fun _=>True) (Op.equalIn n t x y):=by
 intro n
 induction n with
 | zero=>intro t x y _ _;exact D7 _ trivial
 | succ n ih=>
  intro t x y hx hy;unfold Op.equalIn;refine Sf.bind (l5 t) fun d _=>?_;split
  ·exact Sf.pure trivial
  ·split
   ·exact Sf.pure trivial
   ·exact j3 _
  ·exact Sf.pure trivial
  ·exact Sf.pure trivial
  ·rename_i a b;refine Sf.bind (D5 hx.inPtr) fun p hp=>Sf.bind (D5 hy.inPtr) fun q hq=>Sf.bind y9 fun _ _=>?_;split
   ·exact Sf.bind (a0P hp) fun _ _=>Sf.bind (a0P hq) fun _ _=>Sf.pure trivial
   ·refine Sf.bind (F6 _) fun i _=>?_;split
    ·split
     ·exact Sf.pure trivial
     ·exact D7 _ trivial
    ·exact D7 _ trivial
  ·exact D7 _ trivial
  ·exact D7 _ trivial
  ·split
   ·exact Sf.pure trivial
   ·exact j3 _
  ·split
   ·exact Sf.pure trivial
   ·exact j3 _
  ·exact Sf.pure trivial
  ·exact Sf.pure trivial
  ·exact Sf.pure trivial
  ·refine Sf.bind (G6 _) fun _ _=>?_;split
   ·exact a6T hx.inPtr hy.inPtr
   ·split
    ·exact Sf.pure trivial
    ·exact Sf.bind (H8 _) fun _ _=>Sf.pure trivial
  ·exact a8I (by rintro _ rfl;exact hx.inPtr) (by rintro _ rfl;exact hy.inPtr)
  ·exact Sf.pure trivial
  ·exact Sf.pure trivial
  ·exact Sf.pure trivial
  ·exact Sf.pure trivial
  ·split
   ·exact Sf.pure trivial
   ·refine Sf.bind (F6 _) fun i _=>?_;dsimp only;split
    ·refine Sf.bind y9 fun _ _=>Sf.bind y9 fun _ _=>?_;split
     ·exact D7 _ trivial
     ·exact Sf.bind (a2R _) fun _ _=>l8 hP _
    ·exact ih _ _ _ hx.inIface.2 hy.inIface.2
  ·refine Sf.bind y9 fun _ _=>?_;split
   ·exact D7 _ trivial
   ·refine Sf.bind (R:=fun _=>True) (a2q (I:=fun _=>True) _ trivial fun f _ b _=>?_) fun r _=>?_
    ·split
     ·refine Sf.bind (V8 _ hx.inAgg _) fun u hu=>Sf.bind (V8 _ hy.inAgg _) fun v hv=>Sf.bind (ih _ _ _ hu hv) fun c _=>?_;split<;>exact Sf.pure trivial
     ·exact Sf.pure trivial
    ·dsimp only;split<;>exact Sf.pure trivial
  ·refine Sf.bind (G6 _) fun _ _=>Sf.bind (R:=fun _=>True) (a6l (I:=fun _=>True) _ trivial fun i b _=>?_) fun r _=>?_
   ·refine Sf.bind (V8 _ hx.inAgg _) fun u hu=>Sf.bind (V8 _ hy.inAgg _) fun v hv=>Sf.bind (ih _ _ _ hu hv) fun c _=>?_;split<;>exact Sf.pure trivial
   ·dsimp only;split<;>exact Sf.pure trivial
  ·exact Sf.pure trivial
  ·exact Sf.pure trivial
  ·exact Sf.pure trivial
  ·exact Sf.pure trivial
  ·exact Sf.pure trivial
  ·exact Sf.pure trivial
  ·exact Sf.pure trivial
  ·exact j3 _
theorem a8J(hP:POK Z P)(t:TypeId){x y:Value}(hx:VP Z x)(hy:VP Z y):Sf Z P (fun _=>True) (Op.equal t x y):=b4V hP _ _ _ _ hx hy
theorem a5y:∀(n:Nat)(t:TypeId)(x y:Value),VP Z x->VP Z y->Sf Z P (fun _=>True) (Op.eqGuardIn n t x y):=by
 intro n
 induction n with
 | zero=>intro t x y _ _;exact D7 _ trivial
 | succ n ih=>
  intro t x y hx hy;unfold Op.eqGuardIn;refine Sf.bind (l5 t) fun d _=>?_;split
  ·exact Sf.pure trivial
  ·refine Sf.bind (R:=fun _=>True) (a2q (I:=fun _=>True) _ trivial fun f _ b _=>?_) fun r _=>?_
   ·split
    ·refine Sf.bind (V8 _ hx.inAgg _) fun u hu=>Sf.bind (V8 _ hy.inAgg _) fun v hv=>Sf.bind (ih _ _ _ hu hv) fun c _=>?_;split<;>exact Sf.pure trivial
    ·exact Sf.pure trivial
   ·dsimp only;split<;>exact Sf.pure trivial
  ·refine Sf.bind (G6 _) fun _ _=>Sf.bind (R:=fun _=>True) (a6l (I:=fun _=>True) _ trivial fun i b _=>?_) fun r _=>?_
   ·refine Sf.bind (V8 _ hx.inAgg _) fun u hu=>Sf.bind (V8 _ hy.inAgg _) fun v hv=>Sf.bind (ih _ _ _ hu hv) fun c _=>?_;split<;>exact Sf.pure trivial
   ·dsimp only;split<;>exact Sf.pure trivial
  ·exact Sf.pure trivial
theorem b4W(op:BinOp)(t:TypeId)(x y:Operand){a b:Value}(ha:VP Z a)(hb:VP Z b):Sf Z P (fun _=>True) (eqGuard op t x y a b):=by
 unfold eqGuard;refine J4 _ (Sf.pure trivial) ?_;split
 ·refine J4 _ (Sf.pure trivial) ?_
  ·refine Sf.bind (a5y _ _ _ _ ha hb) fun c _=>?_;split
   ·exact D7 _ trivial
   ·exact Sf.pure trivial
 ·refine Sf.bind y9 fun _ _=>Sf.bind y9 fun _ _=>?_;split
  ·exact Sf.pure trivial
  ·refine Sf.bind (a5y _ _ _ _ ha hb) fun c _=>?_;split
   ·exact D7 _ trivial
   ·exact Sf.pure trivial
 ·exact Sf.pure trivial
theorem a9y(ts:Array TypeId)(t:TypeId){ptr:Option Addr}(y:Value)(hp:VP Z (.pointer ptr)):Sf Z P (VP Z) (Builtin.unsafeAdd_ ts t #[.pointer ptr,y]):=by
 unfold Builtin.unsafeAdd_;dsimp only;refine Sf.bind (a06 _) fun n _=>?_;split
 ·split
  ·refine Sf.bind (a3V hp.inPtr) fun o _=>?_;split
   ·exact a2T _ _ trivial
   ·exact Sf.pure hp
  ·exact D7 _ trivial
 ·split
  ·exact a2T _ _ trivial
  ·split
   ·refine Sf.bind (P8 _) fun s _=>?_;split
    ·refine Sf.bind y9 fun p _=>?_;split
     ·exact Sf.pure (.ptr _ hp.inPtr)
     ·exact D7 _ trivial
    ·exact D7 _ trivial
   ·exact D7 _ trivial
theorem a1l(ts:Array TypeId)(t:TypeId){args:Array Value}(h:AP Z args):Sf Z P (VP Z) (Builtin.unsafeAdd_ ts t args):=by
 obtain⟨l⟩:=args;rcases l with _|⟨x,_|⟨y,_|⟨z,l⟩⟩⟩
 ·exact j3 _
 ·cases x<;>exact j3 _
 ·cases x with
  | pointer p=>exact a9y ts t y (h _ (by simp))
  | _=>exact j3 _
 ·cases x<;>exact j3 _
theorem a1I(t:TypeId){x y:Value}(hx:VP Z x)(hy:VP Z y):Sf Z P (VP Z) (movedNumber t x y):=by
 unfold movedNumber;refine Sf.bind (l5 t) fun d _=>?_;refine J4 _ (a2T _ _ trivial) ?_
 ·split
  ·refine Sf.bind (D5 hx.inPtr) fun p hp=>?_;obtain⟨a,l⟩:=p;refine Sf.bind (a1l _ _ ((AP.nil.push (.ptr _ hp)).push hy)) fun v hv=>?_;split
   ·exact a6S hv.inPtr _
   ·exact Sf.pure hv
  ·exact a1l _ _ ((AP.nil.push hx).push hy)
theorem a7r(t:TypeId){x y:Value}(hx:VP Z x)(hy:VP Z y):Sf Z P (VP Z) (movedPointer t x y):=by
 unfold movedPointer;split
 ·refine Sf.bind (a6R hx.inPtr) fun o _=>?_;split
  ·exact D7 _ trivial
  ·exact a1l _ _ ((AP.nil.push hx).push hy)
 ·exact a1l _ _ ((AP.nil.push hx).push hy)
theorem a5z{a b:Addr}(ha:Z.D a.block)(hb:Z.D b.block):Sf Z P (fun _=>True) (Op.twoPlaces a b):=by
 unfold Op.twoPlaces;refine Sf.bind y9 fun _ _=>?_;split
 ·exact a2T _ _ trivial
 ·exact Sf.bind (a0P ha) fun _ _=>Sf.bind (a0P hb) fun _ _=>Sf.pure trivial
theorem b4X(k:IntKind){a b:Addr}(ha:Z.D a.block)(hb:Z.D b.block):Sf Z P (VP Z) (Op.addrSub k a b):=Sf.bind (a5z ha hb) fun _ _=>Sf.pure (.int _ _)
theorem a2U(op:BinOp){a b:Addr}(ha:Z.D a.block)(hb:Z.D b.block):Sf Z P (VP Z) (Op.addrCmp op a b):=by
 unfold Op.addrCmp;refine Sf.bind (a5z ha hb) fun r _=>?_;obtain⟨x,y⟩:=r;dsimp only;split<;>first|exact Sf.pure (.bool _)|exact D7 _ trivial
theorem a4H(k:IntKind){a:Addr}(ha:Z.D a.block)(n:Int):Sf Z P (VP Z) (Op.addrMod k a n):=by
 unfold Op.addrMod;refine Sf.bind (P8 _) fun s _=>?_;split
 ·refine Sf.bind (F6 _) fun i _=>?_;dsimp only;split
  ·exact D7 _ trivial
  ·exact Sf.bind (a0P ha) fun _ _=>Sf.pure (.int _ _)
 ·exact D7 _ trivial
theorem c0H(hP:POK Z P)(op:BinOp)(t:TypeId){x y:Value}(hx:VP Z x)(hy:VP Z y):Sf Z P (VP Z) (binOp op t x y):=by
 unfold binOp;split
 ·exact b3a hP _ _ _ _ _
 ·exact b3a hP _ _ _ _ _
 ·split
  ·exact j3 _
  ·split<;>first|exact a6U _ _ _ _|exact b7S hP _ _ _ _|exact a8H _ _ _ _|exact b7R _ _ _
 ·split
  ·exact j3 _
  ·split<;>first|exact a4l _ _ _ _|exact a6V _ _ _ _
 ·split
  ·exact j3 _
  ·exact b1B _ _ _ _ _ _
 ·exact a3H _ _ _
 ·exact Sf.bind (a8J hP _ hx hy) fun _ _=>Sf.pure (.bool _)
 ·exact Sf.bind (a8J hP _ hx hy) fun _ _=>Sf.pure (.bool _)
 ·refine Sf.bind (l5 _) fun _ _=>?_;split
  ·exact a7r _ hx hy
  ·exact a1I _ hx hy
 ·exact a1I _ hy hx
 ·exact a1I _ hx (.int _ _)
 ·exact Sf.bind (D5 hx.inPtr) fun _ hp=>Sf.bind (D5 hy.inPtr) fun _ hq=>b4X _ hp hq
 ·exact Sf.bind (D5 hx.inPtr) fun _ hp=>Sf.bind (D5 hy.inPtr) fun _ hq=>a2U _ hp hq
 ·exact Sf.bind (D5 hx.inPtr) fun _ hp=>Sf.bind (D5 hy.inPtr) fun _ hq=>a2U _ hp hq
 ·exact Sf.bind (D5 hx.inPtr) fun _ hp=>Sf.bind (D5 hy.inPtr) fun _ hq=>a2U _ hp hq
 ·exact Sf.bind (D5 hx.inPtr) fun _ hp=>Sf.bind (D5 hy.inPtr) fun _ hq=>a2U _ hp hq
 ·exact Sf.bind (D5 hx.inPtr) fun _ hp=>a4H _ hp _
 ·exact Sf.bind (D5 hx.inPtr) fun _ hp=>a4H _ hp _
 ·exact Sf.bind (D5 hy.inPtr) fun _ hp=>a4H _ hp _
 ·exact D7 _ trivial
 ·exact D7 _ trivial
 ·exact j3 _
theorem a6n{x:Value}(hx:VP Z x):Sf Z P (VP Z) (Conv.bytesToString x):=by
 unfold Conv.bytesToString
 cases hx with
 | snil=>exact Sf.pure (.string _)
 | slice a n c ha=>
  refine Sf.bind (a1k ha _) fun l _=>Sf.bind (R:=fun _=>True) (a2q (I:=fun _=>True) _ trivial fun v _ b _=>?_) fun r _=>Sf.pure (.string _);split
  ·exact Sf.pure trivial
  ·exact j3 _
 | _=>exact j3 _
theorem a6o{x:Value}(hx:VP Z x):Sf Z P (VP Z) (Conv.runesToString x):=by
 unfold Conv.runesToString
 cases hx with
 | snil=>exact Sf.pure (.string _)
 | slice a n c ha=>
  refine Sf.bind (a1k ha _) fun l _=>Sf.bind (R:=fun _=>True) (a2q (I:=fun _=>True) _ trivial fun v _ b _=>?_) fun r _=>Sf.pure (.string _);split
  ·exact Sf.pure trivial
  ·exact j3 _
 | _=>exact j3 _
theorem a8K(s:ByteArray):AP Z (s.data.map fun b=>.int .u8 b.toNat):=fun x hx=>by
 obtain⟨b,_,rfl⟩:=Array.mem_map.1 hx;exact .int _ _
theorem a6p(e:TypeId)(s:ByteArray):Sf Z P (VP Z) (Conv.stringToBytes e s):=by
 unfold Conv.stringToBytes;refine Sf.bind (H8 _) fun c _=>Sf.bind (R7 _ ((a8K s).append (AP.replicate _ (.int _ _)))) fun a ha=>Sf.bind (a0O _) fun _ _=>Sf.pure (.slice _ _ _ ha)
theorem c0I(s:ByteArray):∀(n i:Nat)(acc:Array Value),AP Z acc->AP Z (Conv.runesFrom s n i acc):=by
 intro n
 induction n with
 | zero=>intro i acc h;exact h
 | succ n ih=>
  intro i acc h;unfold Conv.runesFrom;split
  ·exact ih _ _ (h.push (.int _ _))
  ·exact h
theorem a6q(e:TypeId)(s:ByteArray):Sf Z P (VP Z) (Conv.stringToRunes e s):=by
 unfold Conv.stringToRunes;exact Sf.bind (H8 _) fun c _=>Sf.bind (R7 _ ((c0I s _ _ _ AP.nil).append (AP.replicate _ (.int _ _)))) fun a ha=>Sf.pure (.slice _ _ _ ha)
theorem b0r{a:Addr}(ha:Z.D a.block):Sf Z P (fun a=>Z.D a.block) (Conv.seenAt a):=by
 unfold Conv.seenAt;refine Sf.bind (a3V ha) fun o ho=>?_;split
 ·rename_i s u;have hs:=ho _ _ rfl;dsimp only;split
  ·exact Sf.pure hs
  ·split
   ·exact D7 _ trivial
   ·refine Sf.bind y9 fun p _=>?_;split
    ·refine Sf.bind (P8 _) fun q _=>?_;split
     ·split
      ·exact D7 _ trivial
      ·split
       ·exact Sf.pure hs
       ·exact D7 _ trivial
     ·exact D7 _ trivial
    ·exact D7 _ trivial
 ·exact Sf.pure ha
theorem a2s(t u:TypeId){x:Value}(hx:VP Z x):Sf Z P (VP Z) (Conv.unsafePointer t u x):=by
 unfold Conv.unsafePointer;refine Sf.bind (l5 _) fun d _=>Sf.bind (l5 _) fun e _=>?_;split
 ·exact Sf.pure hx
 ·refine Sf.bind (b0r hx.inPtr) fun s hs=>Sf.bind (b4N hs) fun c _=>Sf.bind (G6 _) fun n _=>?_;exact J4 _ (Sf.bind (N7 (.view _ _ hs)) fun r hr=>Sf.pure (.ptr _ hr)) (Sf.pure (.ptr _ hs))
 ·exact Sf.pure hx
 ·refine Sf.bind (b0r hx.inPtr) fun s hs=>Sf.bind (G6 _) fun n _=>Sf.bind (a1H _ _ _) fun b _=>?_;split
  ·exact Sf.pure (.ptr _ hs)
  ·refine Sf.bind (P8 _) fun q _=>?_;split
   ·refine Sf.bind y9 fun p _=>Sf.bind y9 fun p _=>?_;split
    ·exact D7 _ trivial
    ·exact Sf.bind (N7 (.view _ _ hs)) fun r hr=>Sf.pure (.ptr _ hr)
   ·exact D7 _ trivial
 ·exact Sf.pure hx
 ·exact Sf.pure (.int _ _)
 ·exact a6S hx.inPtr _
 ·exact D7 _ trivial
 ·exact D7 _ trivial
 ·exact D7 _ trivial
 ·exact j3 _
theorem b4Y(t u:TypeId){x:Value}(hx:VP Z x):Sf Z P (VP Z) (convert t u x):=by
 unfold convert;refine Sf.bind (l5 _) fun d _=>Sf.bind (l5 _) fun e _=>?_;split
 ·exact Sf.pure (.int _ _)
 ·exact Sf.pure (.float _ _)
 ·exact a9x _ _ _
 ·exact a0a _ _ _
 ·unfold Conv.complexToComplex;refine Sf.bind (a0a _ _ _) fun v _=>?_;split
  ·refine Sf.bind (a0a _ _ _) fun v _=>?_;split
   ·exact Sf.pure (.complex _ _ _)
   ·exact j3 _
  ·exact j3 _
 ·exact Sf.pure (.string _)
 ·exact Sf.pure hx
 ·refine Sf.bind (l5 _) fun _ _=>?_;split
  ·exact a6p _ _
  ·exact a6q _ _
  ·exact j3 _
 ·refine Sf.bind (l5 _) fun _ _=>?_;split
  ·exact Sf.bind (a0O _) fun _ _=>Sf.pure hx
  ·exact D7 _ trivial
 ·refine Sf.bind (l5 _) fun _ _=>?_;split
  ·exact a6n hx
  ·exact a6o hx
  ·exact j3 _
 ·exact a2s _ _ hx
 ·exact a2s _ _ hx
 ·exact D7 _ trivial
 ·exact D7 _ trivial
end
end Go.Zn
