/- A part of what the last file proves. -/
import Derived.Test.YtgpbhjjajpbeeaaGreatDoorK08
set_option linter.all false
set_option maxRecDepth 100000
namespace Go.Zn
section
open Go.Extern.Rtype
variable{Z:Zone}{P:Program}
theorem a3X(a:String)(t:TypeId):Sf Z P (fun _=>True) (noPack a t):=by
 unfold noPack;refine Sf.bind y9 fun p _=>?_;split
 ·exact D7 _ trivial
 ·exact Sf.pure trivial
theorem a9D(a:String)(t:TypeId):Sf Z P (fun _=>True) (noPackHeld a t):=by
 unfold noPackHeld;refine Sf.bind y9 fun p _=>Sf.bind y9 fun p _=>?_;split
 ·exact D7 _ trivial
 ·exact Sf.pure trivial
theorem a8P(a:String)(t:TypeId):Sf Z P (fun _=>True) (noPackNamed a t):=by
 unfold noPackNamed;refine Sf.bind y9 fun p _=>Sf.bind y9 fun p _=>?_;split
 ·exact D7 _ trivial
 ·exact Sf.pure trivial
theorem R9(a:String)(t:TypeId):Sf Z P (fun _=>True) (noPackMethods a t):=by
 unfold noPackMethods;refine Sf.bind y9 fun p _=>Sf.bind y9 fun p _=>?_;split
 ·exact D7 _ trivial
 ·exact Sf.pure trivial
theorem a8Q(t:TypeId):Sf Z P (fun _=>True) (spelt t):=Sf.bind (a8P _ _) fun _ _=>a2R t
theorem a2t(t:TypeId):Sf Z P (fun _=>True) (under t):=by
 unfold under;refine Sf.bind (F6 t) fun i _=>?_;split
 ·exact Sf.bind (F6 _) fun _ _=>Sf.pure trivial
 ·exact Sf.pure trivial
theorem a7E(t:TypeId):Sf Z P (fun _=>True) (kind t):=by
 unfold kind;refine Sf.bind (a2t t) fun x _=>?_;dsimp only;split<;>first|exact Sf.pure trivial|exact j3 _
theorem a8R(t:TypeId):Sf Z P (fun _=>True) (hasName t):=by
 unfold hasName;refine Sf.bind (F6 t) fun x _=>?_;split<;>exact Sf.pure trivial
theorem b3f(t:TypeId):Sf Z P (fun _=>True) (elem? t):=by
 unfold elem?;refine Sf.bind (a2t t) fun x _=>?_;split<;>exact Sf.pure trivial
theorem a0Y(t v:TypeId):Sf Z P (fun _=>True) (implements t v):=by
 unfold implements;refine Sf.bind (R9 _ _) fun _ _=>Sf.bind (R9 _ _) fun _ _=>Sf.bind (a2t _) fun _ _=>Sf.bind (a2t _) fun _ _=>?_;split
 ·exact Sf.pure trivial
 ·exact Sf.bind (F6 _) fun _ _=>Sf.pure trivial
 ·exact Sf.pure trivial
theorem a7a(t v:TypeId):Sf Z P (fun _=>True) (directlyAssignable t v):=by
 unfold directlyAssignable;dsimp only;split
 ·exact Sf.pure trivial
 ·refine Sf.bind (R:=fun _=>True) (a8R t) fun b _=>?_;have rest:Sf Z P (fun _:Bool=>True) (do let __x <-under t;let __x_1 <-under v;match __x.snd.desc,__x_1.snd.desc with|.chan _ e,.chan .both e'=>pure (__x.fst==__x_1.fst||e==e')|_,_=>pure (__x.fst==__x_1.fst)):=by
   refine Sf.bind (a2t _) fun _ _=>Sf.bind (a2t _) fun _ _=>?_;split<;>exact Sf.pure trivial
  refine Sf.bind (R:=fun _=>True) (a8R v) fun b' _=>?_;split
  ·exact Sf.pure trivial
  ·exact rest
theorem a3I(h:Value):Sf Z P (fun _=>True) (ofHandle h):=by
 unfold ofHandle;refine Sf.bind y9 fun p _=>?_;split
 ·exact Sf.pure trivial
 ·exact j3 _
theorem b0v(hP:POK Z P)(t:TypeId):Sf Z P (VP Z) (handle t):=by
 unfold handle;refine Sf.bind y9 ?_;rintro p rfl;exact Sf.pure (.ptr _ hP.handle)
theorem a8S(n:String):Sf Z P (fun _=>True) (cutType n):=by
 unfold cutType;refine Sf.bind y9 fun p _=>?_;split
 ·exact Sf.pure trivial
 ·exact j3 _
def c4P(Z:Zone):Prop:=∀t,Z.T t
section
variable(hT:c4P Z)(hP:POK Z P)
include hT hP
open Go.Extern
theorem a6r(t:TypeId):Sf Z P (VP Z) (ReflectliteType.toType t):=by
 unfold ReflectliteType.toType;exact Sf.bind (a8S _) fun u _=>Sf.bind (b0v hP t) fun h hh=>Sf.pure (.iface _ _ (hT _) (.agg _ (AP.one hh)))
theorem b73{args:Array Value}(_:AP Z args):Sf Z P (VP Z) (ReflectliteType.typeOf args):=by
 obtain⟨l⟩:=args;rcases l with _|⟨x,_|⟨y,l⟩⟩
 ·exact j3 _
 ·cases x<;>first|exact Sf.pure .nilIface|exact a6r hT hP _|exact j3 _
 ·cases x<;>exact j3 _
omit hT hP in
theorem a4J(v:Value):Sf Z P (fun _=>True) (ReflectliteType.ofRtype v):=by
 cases v<;>first|exact j3 _|skip
 rename_i c;obtain⟨l⟩:=c;rcases l with _|⟨x,_|⟨y,l⟩⟩
 ·exact j3 _
 ·exact Sf.bind (a3I _) fun _ _=>Sf.bind (a3X _ _) fun _ _=>Sf.pure trivial
 ·exact j3 _
theorem a0F{α:Type}{Q:α->Prop}(s:String):Sf Z P Q (panicString s:Sem α):=by
 unfold panicString
 first
  | exact X6 _
  | (refine Sf.bind y9 fun p _=>?_;exact X6 _)
omit hT hP in
theorem b0w{f:TypeId->Sem Value}(hf:∀t,Sf Z P (VP Z) (f t))(args:Array Value):Sf Z P (VP Z) (ReflectliteType.method f args):=by
 obtain⟨l⟩:=args;rcases l with _|⟨x,_|⟨y,l⟩⟩
 ·exact j3 _
 ·exact Sf.bind (a4J _) fun t _=>hf t
 ·exact j3 _
theorem c0R(t:TypeId):Sf Z P (VP Z) (ReflectliteType.elem t):=by
 unfold ReflectliteType.elem;refine Sf.bind (b3f t) fun e _=>?_;split
 ·exact a6r hT hP _
 ·exact Sf.bind (a8Q _) fun _ _=>a0F hT hP _
omit hT hP in
theorem a9E(t:TypeId):Sf Z P (VP Z) (do noPackHeld "Comparable" t;pure (.bool (<-typeInfo t).comparable)):=Sf.bind (a9D _ _) fun _ _=>Sf.bind (F6 _) fun _ _=>Sf.pure (.bool _)
theorem a7b{a:String}{f:TypeId->TypeId->Sem Bool}(hf:∀t u,Sf Z P (fun _=>True) (f t u))(args:Array Value):Sf Z P (VP Z) (ReflectliteType.relation a f args):=by
 obtain⟨l⟩:=args;rcases l with _|⟨x,_|⟨y,_|⟨z,l⟩⟩⟩
 ·exact j3 _
 ·exact j3 _
 ·cases y<;>first
   | exact a0F hT hP _
   | exact Sf.bind (a4J _) fun _ _=>Sf.bind (a4J _) fun _ _=>Sf.bind (hf _ _) fun _ _=>Sf.pure (.bool _)
   | exact j3 _
 ·cases y<;>exact j3 _
theorem a8T(u t:TypeId):Sf Z P (fun _=>True) (ReflectliteType.implements_ u t):=by
 unfold ReflectliteType.implements_;refine Sf.bind (a7E u) fun k _=>?_;have rest:Sf Z P (fun _:Bool=>True) (do noPackMethods "Implements" t;noPack "Implements" u;implements u t):=Sf.bind (R9 _ _) fun _ _=>Sf.bind (a3X _ _) fun _ _=>a0Y _ _;dsimp only;split
 ·exact Sf.bind (R:=fun _=>True) (a0F hT hP _) fun _ _=>rest
 ·exact rest
theorem a7u(u t:TypeId):Sf Z P (fun _=>True) (ReflectliteType.assignableTo u t):=by
 unfold ReflectliteType.assignableTo;have rest:Sf Z P (fun _:Bool=>True) (do pure ((<-directlyAssignable u t)||(<-implements u t))):=by
  refine Sf.bind (a7a u t) fun b _=>?_
  first
   | exact Sf.bind (a0Y _ _) fun _ _=>Sf.pure trivial
   | (cases b
      ·exact Sf.bind (a0Y _ _) fun _ _=>Sf.pure trivial
      ·exact Sf.pure trivial)
 dsimp only;split
 ·exact Sf.bind (R9 _ _) fun _ _=>Sf.bind (R9 _ _) fun _ _=>rest
 ·exact rest
theorem b1I{f:TypeId->Sem Value}(hf:∀t,Sf Z P (VP Z) (f t))(args:Array Value):Sf Z P (VP Z) (ReflectliteType.abiMethod f args):=by
 obtain⟨l⟩:=args;rcases l with _|⟨x,_|⟨y,l⟩⟩
 ·exact j3 _
 ·exact Sf.bind (a3I _) fun t _=>Sf.bind (a3X _ _) fun _ _=>hf t
 ·exact j3 _
theorem c2J(t:TypeId){a:Addr}(h:Z.D a.block)(fl:Nat):Sf Z P (VP Z) (ReflectliteValue.mk t a fl):=by
 unfold ReflectliteValue.mk;exact Sf.bind (b0v hP t) fun v hv=>Sf.bind (a7E t) fun k _=>Sf.pure (.agg _ (fun x hx=>by
  simp at hx;rcases hx with rfl|rfl|rfl
  ·exact hv
  ·exact .ptr a h
  ·exact .int _ _))
omit hT hP in
theorem b3g:VP Z ReflectliteValue.zeroV:=.agg _ fun x hx=>by
 simp at hx;rcases hx with rfl|rfl|rfl
 ·exact .pnil
 ·exact .int _ _
theorem b0x{v:Value}(h:VP Z v):Sf Z P (VP Z) (ReflectliteValue.unpack v):=by
 cases h with
 | nilIface=>exact Sf.pure b3g
 | iface t w ht hw=>exact Sf.bind (a1r t hw) fun a ha=>c2J hT hP t ha 0
 | _=>exact j3 _
theorem U5{α:Type}{Q:α->Prop}(m:String)(k:Nat):Sf Z P Q (ReflectliteValue.valueError m k:Sem α):=by
 unfold ReflectliteValue.valueError;exact Sf.bind (a8S _) fun t _=>Sf.bind (a0n _) fun e _=>Sf.bind (a1r e (.agg _ fun x hx=>by
  simp at hx;rcases hx with rfl|rfl
  ·exact .string _
  ·exact .int _ _)) fun a _=>X6 _
theorem a7c{v:Value}(h:VP Z v):Sf Z P (fun o=>∀t a fl,o=some (t,a,fl)->Z.D a.block) (ReflectliteValue.partsAny v):=by
 have key:∀(hd:Value)(a:Addr)(f:Nat),Z.D a.block->Sf Z P (fun o=>∀t a fl,o=some (t,a,fl)->Z.D a.block) (do pure (some (<-ofHandle hd,a,f)):Sem (Option (TypeId×Addr×Nat))):=fun hd a f ha=>
  Sf.bind (a3I _) fun t _=>Sf.pure fun t' a' fl' e=>by
   simp only[Option.some.injEq,Prod.mk.injEq] at e;obtain⟨_,rfl,_⟩:=e;exact ha
 cases h<;>first|exact j3 _|skip
 rename_i c hc;obtain⟨l⟩:=c;rcases l with _|⟨x,_|⟨y,_|⟨z,_|⟨u,l⟩⟩⟩⟩
 ·exact j3 _
 ·exact j3 _
 ·exact j3 _
 ·have hy:=hc y (by simp);cases z<;>first|exact j3 _|skip
  rename_i k n;cases k<;>first|exact j3 _|skip
  cases n with
  | ofNat n=>
   cases n with
   | zero=>exact Sf.pure fun _ _ _ h=>by cases h
   | succ n=>
    cases hy with
    | ptr a ha=>exact key x a (n+1) ha
    | _=>exact j3 _
  | negSucc n=>
   cases hy with
   | ptr a ha=>exact key x a _ ha
   | _=>exact j3 _
 ·cases z<;>exact j3 _
theorem a8U{v:Value}(h:VP Z v):Sf Z P (fun o=>∀t a fl,o=some (t,a,fl)->Z.D a.block) (ReflectliteValue.parts v):=by
 unfold ReflectliteValue.parts;refine Sf.bind (a7c hT hP h) fun o ho=>?_;split
 ·exact Sf.bind (a3X _ _) fun _ _=>Sf.pure ho
 ·exact Sf.pure fun _ _ _ h=>by cases h
theorem a4K{zero:Sem Value}{f:TypeId->Addr->Nat->Nat->Sem Value}(hz:Sf Z P (VP Z) zero)(hf:∀t a fl k,Z.D a.block->Sf Z P (VP Z) (f t a fl k)){args:Array Value}(h:AP Z args):Sf Z P (VP Z) (ReflectliteValue.method zero f args):=by
 obtain⟨l⟩:=args;rcases l with _|⟨x,_|⟨y,l⟩⟩
 ·exact j3 _
 ·refine Sf.bind (a8U hT hP (h x (by simp))) fun o ho=>?_
  cases o with
  | none=>exact hz
  | some o=>obtain⟨t,a,fl⟩:=o;exact hf _ _ _ _ (ho _ _ _ rfl)
 ·exact j3 _
theorem a9F{zero:Sem Value}{f:TypeId->Addr->Nat->Nat->Sem Value}(hz:Sf Z P (VP Z) zero)(hf:∀t a fl k,Z.D a.block->Sf Z P (VP Z) (f t a fl k)){args:Array Value}(h:AP Z args):Sf Z P (VP Z) (ReflectliteValue.methodAny zero f args):=by
 obtain⟨l⟩:=args;rcases l with _|⟨x,_|⟨y,l⟩⟩
 ·exact j3 _
 ·refine Sf.bind (a7c hT hP (h x (by simp))) fun o ho=>?_
  cases o with
  | none=>exact hz
  | some o=>obtain⟨t,a,fl⟩:=o;exact hf _ _ _ _ (ho _ _ _ rfl)
 ·exact j3 _
theorem b74(t:TypeId){a:Addr}(h:Z.D a.block)(fl k:Nat):Sf Z P (VP Z) (ReflectliteValue.isNil t a fl k):=by
 unfold ReflectliteValue.isNil;have rest:Sf Z P (VP Z) (do match <-loadVar t a with|.chan none|.nilFunc|.nilIface|.map none|.pointer none|.slice none _ _=>pure (.bool true)|_=>pure (.bool false)):=by
  refine Sf.bind (X7 t h) fun v _=>?_;split<;>exact Sf.pure (.bool _)
 dsimp only;split
 ·exact Sf.bind (R:=fun _=>True) (U5 hT hP _ _) fun _ _=>rest
 ·exact rest
theorem c0S(t:TypeId){a:Addr}(h:Z.D a.block)(fl k:Nat):Sf Z P (VP Z) (ReflectliteValue.elem t a fl k):=by
 unfold ReflectliteValue.elem;have rest:Sf Z P (VP Z) (do match k,<-loadVar t a,<-elem? t with|20,i,_=>ReflectliteValue.unpack i|22,.pointer none,_=>pure ReflectliteValue.zeroV|22,.pointer (some p),some e=>ReflectliteValue.mk e p ReflectliteValue.flagAddr|_,_,_=>ReflectliteValue.valueError "reflectlite.Value.Elem" k):=by
  refine Sf.bind (X7 t h) fun v hv=>Sf.bind (b3f t) fun e _=>?_;split
  ·exact b0x hT hP hv
  ·exact Sf.pure b3g
  ·cases hv with
   | ptr a h=>exact c2J hT hP _ h _
  ·exact U5 hT hP _ _
 dsimp only;split
 ·exact Sf.bind (R:=fun _=>True) (U5 hT hP _ _) fun _ _=>rest
 ·exact rest
theorem c3X{args:Array Value}(h:AP Z args):Sf Z P (VP Z) (ReflectliteValue.set args):=by
 obtain⟨l⟩:=args;rcases l with _|⟨x,_|⟨y,_|⟨z,l⟩⟩⟩
 ·exact j3 _
 ·exact j3 _
 ·unfold ReflectliteValue.set;dsimp only;refine Sf.bind (a8U hT hP (h x (by simp))) fun o ho=>Sf.bind (a8U hT hP (h y (by simp))) fun o' ho'=>?_
  cases o with
  | none=>exact D7 _ trivial
  | some o=>
   cases o' with
   | none=>exact D7 _ trivial
   | some o'=>
    obtain⟨dst,a,fl⟩:=o;obtain⟨src,b,fl'⟩:=o';have ha:=ho _ _ _ rfl;have hb:=ho' _ _ _ rfl;have store:∀v,VP Z v->Sf Z P (VP Z) (do storeVar dst a v;pure (.tuple #[])):=fun v hv=>Sf.bind (a6Q dst ha hv) fun _ _=>Sf.pure (.tuple _ AP.nil);have rest:Sf Z P (VP Z) (do
     let val <-loadVar src b
     if <-directlyAssignable dst src then storeVar dst a val
     else if <-implements dst src then
      if (<-kind src)==20 then
       match val with
       | .nilIface=>unsupported (.noEntry "extern/reflectlite: a nil value of one interface type handed on as a value of another")
       | _=>storeVar dst a val
      else storeVar dst a (.iface src val)
     else panicString ("reflectlite.Set: value of type "++(<-spelt src)++ " is not assignable to type "++(<-spelt dst))
     pure (.tuple #[])):=by
     refine Sf.bind (X7 src hb) fun val hval=>Sf.bind (a7a dst src) fun d _=>?_;split
     ·exact store _ hval
     ·refine Sf.bind (a0Y dst src) fun i _=>?_;split
      ·refine Sf.bind (a7E src) fun k _=>?_;split
       ·split
        ·exact Sf.bind (R:=fun _=>True) (D7 _ trivial) fun _ _=>Sf.pure (.tuple _ AP.nil)
        ·exact store _ hval
       ·exact store _ (.iface _ _ (hT _) hval)
      ·exact Sf.bind (a8Q _) fun _ _=>Sf.bind (a8Q _) fun _ _=>Sf.bind (R:=fun _=>True) (a0F hT hP _) fun _ _=>Sf.pure (.tuple _ AP.nil)
    dsimp only;split
    ·exact Sf.bind (R:=fun _=>True) (D7 _ trivial) fun _ _=>rest
    ·exact rest
 ·exact j3 _
omit hT hP in
theorem c2t{args:Array Value}(h:AP Z args):Sf Z P (VP Z) (AbiNoEscape.same args):=by
 obtain⟨l⟩:=args;rcases l with _|⟨x,_|⟨y,l⟩⟩
 ·exact j3 _
 ·exact Sf.pure (h x (by simp))
 ·exact j3 _
omit hT hP in
theorem a9G{a:Addr}(h:Z.D a.block)(n:Nat):∀acc,Sf Z P (fun _=>True) (Bytes.loadBytes a n acc):=by
 induction n generalizing a with
 | zero=>intro acc;exact Sf.pure trivial
 | succ n ih=>
  intro acc;unfold Bytes.loadBytes;refine Sf.bind (a5u h) fun v _=>?_;split
  ·exact ih (by unfold Addr.add;split<;>exact h) _
  ·exact j3 _
omit hT hP in
theorem a4L{v:Value}(h:VP Z v):Sf Z P (fun _=>True) (Bytes.bytesOf v):=by
 cases h with
 | string s=>exact Sf.pure trivial
 | snil n c=>exact Sf.pure trivial
 | slice a n c ha=>exact a9G ha _ _
 | _=>exact j3 _
omit hT hP in
theorem b75(v:Value):Sf Z P (fun _=>True) (Bytes.asByte v):=by
 unfold Bytes.asByte;split
 ·exact Sf.pure trivial
 ·exact j3 _
omit hT hP in
theorem b1J{args:Array Value}(h:AP Z args):Sf Z P (VP Z) (BytealgIndexByte.indexByte args):=by
 obtain⟨l⟩:=args;rcases l with _|⟨x,_|⟨y,_|⟨z,l⟩⟩⟩
 ·exact j3 _
 ·exact j3 _
 ·unfold BytealgIndexByte.indexByte;refine Sf.bind (a4L (h x (by simp))) fun b _=>Sf.bind (b75 _) fun c _=>?_;split<;>exact Sf.pure (.int _ _)
 ·exact j3 _
omit hT in
theorem a9H(hG:∀b,b<P.globals.size->Z.D b)(n:String):Sf Z P (fun a=>Z.D a.block) (globalAddr n):=by
 unfold globalAddr;refine Sf.bind y9 ?_;rintro p rfl;split
 ·rename_i g hg;exact Sf.pure (hG _ (Array.findIdx?_eq_some_iff_getElem.1 hg).1)
 ·exact j3 _
omit hT in
theorem c0T(hG:∀b,b<P.globals.size->Z.D b){args:Array Value}(h:AP Z args):Sf Z P (VP Z) (BytealgIndex.index args):=by
 obtain⟨l⟩:=args;rcases l with _|⟨x,_|⟨y,_|⟨z,l⟩⟩⟩
 ·exact j3 _
 ·exact j3 _
 ·unfold BytealgIndex.index BytealgIndex.maxLen;refine Sf.bind (a4L (h x (by simp))) fun b _=>Sf.bind (a4L (h y (by simp))) fun c _=>Sf.bind (R:=fun _=>True) (Sf.bind (a9H hP hG _) fun a ha=>Sf.bind (a5u ha) fun v _=>a06 _) fun n _=>?_;have last:Sf Z P (VP Z) (match (List.range (b.size+1 - c.size)).find? fun i=>b.extract i (i+c.size)==c with|some i=>pure (goInt i)|none=>pure (goInt (-1))):=by
   split<;>exact Sf.pure (.int _ _)
  have rest:Sf Z P (VP Z) (do
   if b.size ≥ 2^32 - 15 then unsupported (.noEntry "extern/internal/bytealg.Index: a haystack of 2^32 - 15 bytes or more")
   match (List.range (b.size+1 - c.size)).find? fun i=>b.extract i (i+c.size)==c with|some i=>pure (goInt i)|none=>pure (goInt (-1))):=by
   dsimp only;split
   ·exact Sf.bind (R:=fun _=>True) (D7 _ trivial) fun _ _=>last
   ·exact last
  exact J4 _ (Sf.bind (R:=fun _=>True) (D7 _ trivial) fun _ _=>rest) rest
 ·exact j3 _
omit hT hP in
theorem b0y:∀(n t:Nat){acc:Array Value},AP Z acc->AP Z (BytealgMakeNoZero.digits n t acc)
 | 0,_,_,h=>h
 | n+1,t,_,h=>b0y n (t/256) (h.push (.int _ _))
omit hT in
theorem a9I(ps rs:Array TypeId){args:Array Value}(_:AP Z args):Sf Z P (VP Z) (BytealgMakeNoZero.makeNoZero ps rs args):=by
 obtain⟨l⟩:=args;rcases l with _|⟨x,_|⟨y,l⟩⟩
 ·exact j3 _
 ·cases x with
  | int k n=>
   cases k<;>first|exact j3 _|skip
   show Sf Z P (VP Z) (BytealgMakeNoZero.makeNoZero ps rs #[.int .i64 n]);unfold BytealgMakeNoZero.makeNoZero;have rest:∀elem,Sf Z P (VP Z) (do
    let cap <-choose (.appendCap n.toNat 0 elem)
    askRoom cap
    let bytes <-choose (.extern "internal/bytealg.MakeNoZero.bytes" 0)
    let a <-newRow elem (BytealgMakeNoZero.digits cap bytes #[])
    pure (.slice (some a) n.toNat cap)):=fun elem=>
    Sf.bind (H8 _) fun c _=>Sf.bind (a2Q _) fun _ _=>Sf.bind (H8 _) fun b _=>Sf.bind (R7 elem (b0y _ _ AP.nil)) fun a ha=>Sf.pure (.slice _ _ _ ha)
   dsimp only;split
   ·refine Sf.bind (l5 _) fun d _=>?_;split
    ·split
     ·exact Sf.bind (R:=fun _=>True) (l8 hP _) fun _ _=>rest _
     ·exact rest _
    ·exact j3 _
   ·exact j3 _
  | _=>exact j3 _
 ·cases x with
  | int k n=>cases k<;>exact j3 _
  | _=>exact j3 _
omit hT in
theorem b76(t:Extern.Atomic.T){args:Array Value}(h:AP Z args):Sf Z P (VP Z) (Atomic.loadT t args):=by
 obtain⟨l⟩:=args;rcases l with _|⟨x,_|⟨y,l⟩⟩
 ·exact j3 _
 ·unfold Atomic.loadT Atomic.read;refine Sf.bind (a1s hP (h x (by simp))) fun a ha=>Sf.bind (c0w ha) fun v hv=>?_;split<;>first|exact Sf.pure hv|exact D7 _ trivial|skip
  split
  ·exact Sf.pure hv
  ·exact D7 _ trivial
 ·exact j3 _
end
end
section
structure ZB where
 F:FuncId->Bool
 T:TypeId->Bool
 N:String->Bool
 G:Nat
def ZB.zone(B:ZB):Zone:={D:=fun b=>b<=B.G,F:=fun f=>B.F f=true,T:=fun t=>B.T t=true,N:=fun n=>B.N n=true,Y:=fun _=>False}
variable(B:ZB)
def b7J:Fn->Bool
 | .func f=>B.F f
 | .method n=>B.N n
 | _=>false
def vOK:Nat->Value->Bool
 | 0,_=>false
 | n+1,v=>match v with
  | .bool _|.int .. | .float .. | .complex .. | .string _|.pointer none|.slice none _ _|.map none|.chan none|.nilFunc|.nilIface=>true
  | .pointer (some a)=>decide (a.block<=B.G)
  | .func fn f c=>b7J B fn&&f.toList.all (vOK n)&&c.toList.all (vOK n)
  | .iface t v=>B.T t&&vOK n v
  | .agg c|.tuple c=>c.toList.all (vOK n)
  | _=>false
def b0o:Operand->Bool
 | .tmp _=>true
 | .const v=>vOK B 8 v
 | .global g=>decide (g<=B.G)
 | .func f=>B.F f
def b2Z:Callee->Bool
 | .invoke _ n=>B.N n
 | .builtin b=>bOK b
 | .value _=>true
def c4L:Op->Bool
 | .makeInterface t _=>B.T t
 | .makeFunc fn _ _=>b7J B fn
 | .call c=>b2Z B c.callee
 | .go _|.defer _|.send .. | .recv .. | .select .. | .makeChan .. | .ready _|.waits _|.mapEntry .. | .entryStore .. | .sliceToArrayPointer ..=>false
 | _=>true
def b7K(o:Op):Bool:=c4L B o&&o.operands.toList.all (b0o B)
def cOK:Code->Bool
 | .seq a b=>cOK a&&cOK b
 | .cond _ a b=>cOK a&&cOK b
 | .block _ b=>cOK b
 | .loop b=>cOK b
 | .scope b=>cOK b
 | .region _ ops _=>ops.toList.all fun o=>b7K B o.op
 | .rangeFunc f _ assign body=>b0o B f&&cOK assign&&cOK body
 | _=>true
variable{B}
theorem b7J.sound{f:Fn}(h:b7J B f=true):FnP B.zone f:=by
 cases f with
 | func f=>exact .func f h
 | method n=>exact .method n h
 | _=>cases h
theorem vOK.sound:∀(n:Nat)(v:Value),vOK B n v=true->VP B.zone v:=by
 intro n
 induction n with
 | zero=>intro v h;cases h
 | succ n ih=>
  have all:∀c:Array Value,c.toList.all (vOK B n)=true->∀x∈c,VP B.zone x:=fun c hc x hx=>ih x (List.all_eq_true.1 hc x (by simpa using hx));intro v h;unfold vOK at h;split at h<;>first|(constructor;done)|skip
  ·rename_i a;exact .ptr a (of_decide_eq_true (p:=a.block<=B.G) h:a.block<=B.G)
  ·rename_i fn f c;simp only[Bool.and_eq_true] at h;exact .func fn f c (b7J.sound h.1.1) (all f h.1.2) (all c h.2)
  ·rename_i t v;simp only[Bool.and_eq_true] at h;exact .iface t v h.1 (ih v h.2)
  ·exact .agg _ (all _ h)
  ·exact .tuple _ (all _ h)
  ·cases h
theorem b0o.sound{x:Operand}(h:b0o B x=true):b4L B.zone x:=by
 cases x with
 | tmp t=>trivial
 | const v=>exact vOK.sound _ _ h
 | global g=>exact(of_decide_eq_true (p:=g<=B.G) h:g<=B.G)
 | func f=>exact h
theorem b7K.sound{o:Op}(h:b7K B o=true):OpP B.zone o:=by
 unfold b7K at h;simp only[Bool.and_eq_true] at h;refine⟨?_,fun x hx=>b0o.sound (List.all_eq_true.1 h.2 x (by simpa using hx))⟩;have h1:=h.1;cases o<;>first|trivial|exact h1|(exact b7J.sound h1)|(cases h1;done)|skip
 rename_i c;show a3S B.zone c.callee;have h2:b2Z B c.callee=true:=h1;cases hc:c.callee<;>rw[hc] at h2<;>first|exact h2|trivial
theorem cOK.sound:∀{c:Code},cOK B c=true->CodeP B.zone c:=by
 intro c
 induction c with
 | seq a b iha ihb=>intro h;simp only[cOK,Bool.and_eq_true] at h;exact⟨iha h.1,ihb h.2⟩
 | cond _ a b iha ihb=>intro h;simp only[cOK,Bool.and_eq_true] at h;exact⟨iha h.1,ihb h.2⟩
 | block _ b ih=>intro h;exact ih h
 | loop b ih=>intro h;exact ih h
 | scope b ih=>intro h;exact ih h
 | region _ ops _=>intro h o ho;exact b7K.sound (List.all_eq_true.1 (show ops.toList.all (fun o=>b7K B o.op)=true from h) o (by simpa using ho))
 | rangeFunc f _ a b iha ihb=>intro h;simp only[cOK,Bool.and_eq_true] at h;exact⟨b0o.sound h.1.1,iha h.1.2,ihb h.2⟩
 | _=>intro _;trivial
end
section
open Go.Made
variable{Z:Zone}
def ZOK(Z:Zone)(i:TypeInfo):Prop:=∀z,i.zero=some z->VP Z z
theorem b77{α β:Type}(P:β->Prop)(f:α->β->Option (ForInStep β))(hf:∀a b s,P b->f a b=some s->P (match s with|.yield b=>b|.done b=>b)):
 ∀(l:List α)(b b':β),P b->forIn l b f=some b'->P b':=by
 intro l
 induction l with
 | nil=>intro b b' h e;simp at e;exact e▸h
 | cons a l ih=>
  intro b b' h e;rw[List.forIn_cons] at e
  cases hs:f a b with
  | none=>rw[hs] at e;cases e
  | some s=>
   rw[hs] at e;have:=hf a b s h hs
   cases s with
   | yield b1=>exact ih b1 b' this e
   | done b1=>simp at e;exact e▸this
theorem a3Y{d:TypeDesc}{s:String}{z:Value}{c:Bool}{n:Nat}(h:VP Z z):ZOK Z (word d s z c n)/\(word d s z c n).methods=#[]:=⟨fun z' e=>by
 simp only[word,Option.some.injEq] at e;exact e▸h,rfl⟩
theorem b78{info:TypeId->Option TypeInfo}(hi:∀t i,info t=some i->ZOK Z i){fs:Array Field}{i:TypeInfo}(h:reckonStruct info fs=some i):ZOK Z i/\i.methods=#[]:=by
 unfold reckonStruct at h;simp only[bind,Option.bind_eq_some_iff] at h;obtain⟨a,ha,hr⟩:=h;rw[<-Array.forIn_toList] at ha;have key:∀zs,a.2.2.2.2.2.2.2.1=some zs->AP Z zs:=by
  refine b77 (P:=fun b=>∀zs,b.2.2.2.2.2.2.2.1=some zs->AP Z zs) _ ?_ _ _ _ ?_ ha
  ·intro f b s hb e;obtain⟨i,hi',e⟩:=Option.bind_eq_some_iff.1 e;have hz:=hi _ _ hi';have fin:∀zs,(if b.2.1+i.size>mostCells then none else b.2.2.2.2.2.2.2.1.bind fun x=>i.zero.bind fun y=>pure (x++y.cells))=some zs->AP Z zs:=by
    intro zs h;split at h
    ·cases h
    ·obtain⟨x,hx,h⟩:=Option.bind_eq_some_iff.1 h;obtain⟨y,hy,h⟩:=Option.bind_eq_some_iff.1 h;injection h with h;subst h;exact(hb x hx).append (hz y hy).cells
   by_cases h1:i.str.isEmpty=true
   ·rw[if_pos h1] at e;simp at e
   rw[if_neg h1] at e;by_cases h2:f.embedded=true
   ·simp[h2] at e
   rw[if_neg h2] at e;have tail:∀tag,(fun tag:String=>if i.bytes=0 then pure (f:=Option) (ForInStep.yield (b.1.push {name:=f.name,type:=f.type,offset:=b.2.1,embedded:=f.embedded,tag:=f.tag,pkgPath:=f.pkgPath,byteOffset:=roundUp b.2.2.1 i.align},b.2.1+i.size,roundUp b.2.2.1 i.align+i.bytes,max b.2.2.2.1 i.align,roundUp b.2.2.1 i.align+i.bytes,b.2.2.2.2.2.1||i.hasPointers,b.2.2.2.2.2.2.1&&i.comparable,(if b.2.1+i.size>mostCells then none else b.2.2.2.2.2.2.2.1.bind fun x=>i.zero.bind fun y=>pure (x++y.cells)),b.2.2.2.2.2.2.2.2++ " "++f.name++ " "++i.str++tag++if b.1.size+1<fs.size then ";" else "")) else pure (ForInStep.yield (b.1.push {name:=f.name,type:=f.type,offset:=b.2.1,embedded:=f.embedded,tag:=f.tag,pkgPath:=f.pkgPath,byteOffset:=roundUp b.2.2.1 i.align},b.2.1+i.size,roundUp b.2.2.1 i.align+i.bytes,max b.2.2.2.1 i.align,b.2.2.2.2.1,b.2.2.2.2.2.1||i.hasPointers,b.2.2.2.2.2.2.1&&i.comparable,(if b.2.1+i.size>mostCells then none else b.2.2.2.2.2.2.2.1.bind fun x=>i.zero.bind fun y=>pure (x++y.cells)),b.2.2.2.2.2.2.2.2++ " "++f.name++ " "++i.str++tag++if b.1.size+1<fs.size then ";" else ""))) tag=some s->(match s with|.yield b=>∀zs,b.2.2.2.2.2.2.2.1=some zs->AP Z zs|.done b=>∀zs,b.2.2.2.2.2.2.2.1=some zs->AP Z zs):=by
    intro tag h;dsimp only at h;split at h<;>(injection h with h;subst h;exact fin)
   split at e
   ·obtain⟨tag,_,e⟩:=Option.bind_eq_some_iff.1 e;cases s<;>exact tail tag e
   ·obtain⟨tag,_,e⟩:=Option.bind_eq_some_iff.1 e;cases s<;>exact tail tag e
  ·intro zs h;injection h with h;subst h;exact AP.nil
 split at hr<;>(injection hr with hr;subst hr;refine⟨fun z h=>?_,rfl⟩;obtain⟨c,hc,rfl⟩:=Option.map_eq_some_iff.1 h;exact .agg _ (key c hc))
theorem b79{info:TypeId->Option TypeInfo}(hi:∀t i,info t=some i->ZOK Z i){d:TypeDesc}{i:TypeInfo}(h:reckon info d=some i):ZOK Z i/\i.methods=#[]:=by
 cases d with
 | pointer e=>
  simp only[reckon,bind,Option.bind_eq_some_iff] at h;obtain⟨j,_,h⟩:=h;split at h
  ·cases h
  ·split at h
   ·cases h
   ·obtain⟨s,_,h⟩:=Option.bind_eq_some_iff.1 h;injection h with h;subst h;exact a3Y .pnil
  ·obtain⟨s,_,h⟩:=Option.bind_eq_some_iff.1 h;injection h with h;subst h;exact a3Y .pnil
 | slice e=>
  simp only[reckon,bind,Option.bind_eq_some_iff] at h;obtain⟨j,_,s,_,h⟩:=h
  injection h with h;subst h;exact a3Y (.snil _ _)
 | map k e=>
  simp only[reckon,bind,Option.bind_eq_some_iff] at h;obtain⟨j,_,s,_,j',_,s',_,h⟩:=h
  injection h with h;subst h;exact a3Y .mnil
 | chan dir e=>
  simp only[reckon,bind,Option.bind_eq_some_iff] at h;obtain⟨j,_,s,_,h⟩:=h
  injection h with h;subst h;exact a3Y .cnil
 | func ps rs v=>
  simp only[reckon,bind,Option.bind_eq_some_iff] at h;obtain⟨s,_,h⟩:=h
  injection h with h;subst h;exact a3Y .nilFunc
 | array n e=>
  simp only[reckon,bind,Option.bind_eq_some_iff] at h;obtain⟨j,hj,s,_,h⟩:=h;injection h with h;subst h;refine⟨fun z h=>?_,rfl⟩;dsimp only at h;split at h
  ·cases h
  ·split at h
   ·injection h with h;subst h;exact .agg _ AP.nil
   ·obtain⟨z',hz',rfl⟩:=Option.map_eq_some_iff.1 h;have hc:=(hi _ _ hj z' hz').cells;refine .agg _ fun x hx=>?_;simp only[Array.mem_flatten,Array.mem_replicate] at hx;obtain⟨l,⟨_,rfl⟩,hx⟩:=hx
    exact hc x hx
 | struct fs=>exact b78 hi h
 | _=>cases h
theorem b0z{T:Tables}(hT:∀(t:Nat)(i:TypeInfo),T.types[t]?=some i->ZOK Z i):∀f t i,Made.infoAt T f t=some i->ZOK Z i/\(T.types.size<=t->i.methods=#[])
 | 0,_,_,h=>by cases h
 | f+1,t,i,h=>by
  unfold Made.infoAt at h;split at h
  ·rename_i hlt;exact⟨hT t i h,fun hge=>absurd hlt (Nat.not_lt.mpr hge)⟩
  ·obtain⟨d,_,h⟩:=Option.bind_eq_some_iff.1 h;have:=b79 (fun t i h=>(b0z hT f t i h).1) h;exact⟨this.1,fun _=>this.2⟩
theorem info_ok{T:Tables}(hT:∀(t:Nat)(i:TypeInfo),T.types[t]?=some i->ZOK Z i){t:TypeId}{i:TypeInfo}(h:T.info? t=some i):ZOK Z i/\(T.types.size<=t->i.methods=#[]):=by
 unfold Tables.info? at h;split at h
 ·rename_i hlt;exact⟨hT t i h,fun hge=>absurd hlt (Nat.not_lt.mpr hge)⟩
 ·exact b0z hT _ t i h
theorem info_old{T:Tables}{t:TypeId}(ht:t<T.types.size){i:TypeInfo}(h:T.info? t=some i):T.types[t]?=some i:=by
 unfold Tables.info? at h;rw[if_pos ht] at h;exact h
end
end Go.Zn
namespace Go.Proofs.YtgpbhjjajpbeeaaGreatDoor
section
open Go.RowKit Go.Zn Go.Extern
def fs:Nat:=13968099261131126359713065202646624295774213882799324763965390427744041519001600
def zb:ZB:={F:=fun f=>fs.testBit f,T:=fun _=>true,N:=fun n=>["Comparable","AssignableTo","Is","Kind","Elem","As","Unwrap","Implements"].contains n,G:=7}
def zone:Zone:=zb.zone
noncomputable def b1G(f:Nat):Bool:=!fs.testBit f||(match Tryz.prog.funcs[f]? with
 | some fn=>(fn.name != "runtime.NumGoroutine")&&(match fn.body with|some c=>cOK zb c|none=>true)
 | none=>true)
theorem codes:(List.range 263).all b1G=true:=by kernel_rfl
theorem c2p:∀f,fs.testBit f=true->f<263:=fun f h=>by
 rcases Nat.lt_or_ge f 263 with h1|h1
 ·exact h1
 ·obtain⟨k,rfl⟩:∃k,f=250+k:=⟨f - 250,by omega⟩;rw[Nat.testBit_lt_two_pow (Nat.lt_of_lt_of_le (by decide:fs<2^250*2^13) (by rw[Nat.pow_add];exact Nat.mul_le_mul_left _ (Nat.pow_le_pow_right (by decide) (by omega))))] at h;cases h
noncomputable def b46(f:Nat):Bool:=!fs.testBit f||(match Tryz.prog.funcs[f]? with
 | some fn=>fn.body.isSome||[97,118,119,120,121,162,163,206,207,231,233,247,248,255,259,260,261,262].contains f
 | none=>true)
theorem c5g:(List.range 263).all b46=true:=by kernel_rfl
def typeAt(i:TypeInfo):Bool:=(match i.zero with|some z=>vOK zb 6 z|none=>true)&&i.methods.toList.all fun m=>!zb.N m.name||(match m.func with|some (f,_)=>fs.testBit f|none=>true)
theorem types:Tryz.prog.types.toList.all typeAt=true:=by kernel_rfl
theorem globals_size:Tryz.prog.globals.size=7:=by kernel_rfl
variable{Z':Zone}
theorem c4N(h:Le zone Z'):c4P Z':=fun t=>h.T▸(rfl:zb.T t=true)
theorem pok(h:Le zone Z'):POK Z' Tryz.prog:=by
 have hty:∀(t:Nat)(i:TypeInfo),Tryz.prog.types[t]?=some i->typeAt i=true:=fun t i hi=>List.all_eq_true.1 types i (by rw[<-Array.getElem?_toList] at hi;exact List.mem_of_getElem? hi);have hz:∀(t:Nat)(i:TypeInfo),Tryz.prog.types[t]?=some i->ZOK Z' i:=fun t i hi z hzz=>by
  have h1:=hty t i hi;unfold typeAt at h1;simp only[Bool.and_eq_true] at h1;rw[hzz] at h1;exact(vOK.sound _ _ h1.1).mono h
 refine⟨fun t i z hi=>(info_ok (Z:=Z') hz hi).1 z,h.D _ (show Tryz.prog.globals.size<=7 by rw[globals_size];exact Nat.le_refl _),fun t i _ hi m hm hN f p hf=>?_⟩;rcases Nat.lt_or_ge t Tryz.prog.types.size with ht|ht
 ·have h1:=hty t i (info_old ht hi);unfold typeAt at h1;simp only[Bool.and_eq_true] at h1;have h2:=List.all_eq_true.1 h1.2 m (by simpa using hm);rw[hf] at h2;have hN':zb.N m.name=true:=by rw[h.N] at hN;exact hN
  rw[hN'] at h2;rw[h.F];exact(by simpa using h2:fs.testBit f=true)
 ·rw[(info_ok (Z:=Z') hz hi).2 ht] at hm;simp at hm
theorem z_f(h:Le zone Z'){f:FuncId}(hf:Z'.F f):fs.testBit f=true:=by rw[h.F] at hf;exact hf
theorem c4O(h:Le zone Z'):∀b,b<Tryz.prog.globals.size->Z'.D b:=fun b hb=>h.D b (by rw[globals_size] at hb;exact Nat.le_of_lt hb)
theorem P9{fn:Func}{x:Array Value->Sem Value}(hn:Extern.findNext fn=none)(hf:Extern.find fn=some x)(hx:∀args,AP Z' args->Sf Z' Tryz.prog (VP Z') (x args)):
 (∀e args,Extern.findNext fn=some e->AP Z' args->Sf Z' Tryz.prog (a09 Z') (e args))/\(∀e args,Extern.find fn=some e->AP Z' args->Sf Z' Tryz.prog (VP Z') (e args)):=
 ⟨fun e args h=>absurd h (by rw[hn];simp),fun e args h ha=>(Option.some.inj (hf.symm.trans h))▸hx args ha⟩
theorem c0O{fn:Func}(hn:Extern.findNext fn=none)(hf:Extern.find fn=none):
 (∀e args,Extern.findNext fn=some e->AP Z' args->Sf Z' Tryz.prog (a09 Z') (e args))/\(∀e args,Extern.find fn=some e->AP Z' args->Sf Z' Tryz.prog (VP Z') (e args)):=
 ⟨fun e args h=>absurd h (by rw[hn];simp),fun e args h=>absurd h (by rw[hf];simp)⟩
theorem c2q(h:Le zone Z'):∀f∈[97,118,119,120,121,162,163,206,207,231,233,247,248,255,259,260,261,262],∀fn,Tryz.prog.funcs[f]?=some fn->
 (∀e args,Extern.findNext fn=some e->AP Z' args->Sf Z' Tryz.prog (a09 Z') (e args))/\(∀e args,Extern.find fn=some e->AP Z' args->Sf Z' Tryz.prog (VP Z') (e args)):=by
 have hP:=pok h;have hT:=c4N h;have hG:=c4O h;intro f hf fn hfn;simp only[List.mem_cons,List.not_mem_nil,or_false] at hf;rcases hf with rfl|rfl|rfl|rfl|rfl|rfl|rfl|rfl|rfl|rfl|rfl|rfl|rfl|rfl|rfl|rfl|rfl|rfl
 ·obtain rfl:=Option.some.inj (Tryz.func97.symm.trans hfn);exact P9 (x:=ReflectliteType.typeOf) (by kernel_rfl) (by kernel_rfl) fun args ha=>b73 hT hP ha
 ·obtain rfl:=Option.some.inj (Tryz.func118.symm.trans hfn);exact P9 (x:=Atomic.loadT (.int .i64)) (by kernel_rfl) (by kernel_rfl) fun args ha=>b76 hP _ ha
 ·obtain rfl:=Option.some.inj (Tryz.func119.symm.trans hfn);exact P9 (x:=fun args=>ReflectliteValue.unpack (args.getD 0 (.tuple #[]))) (by kernel_rfl) (by kernel_rfl) fun args ha=>b0x hT hP (ha.getD 0 (.tuple _ AP.nil))
 ·obtain rfl:=Option.some.inj (Tryz.func120.symm.trans hfn);exact P9 (x:=ReflectliteValue.methodAny (ReflectliteValue.valueError "reflectlite.Value.Type" 0) fun t _ _ _=>ReflectliteType.toType t) (by kernel_rfl) (by kernel_rfl) fun args ha=>a9F hT hP (U5 hT hP _ _) (fun t _ _ _ _=>a6r hT hP t) ha
 ·obtain rfl:=Option.some.inj (Tryz.func121.symm.trans hfn);exact P9 (x:=ReflectliteValue.method (ReflectliteValue.valueError "reflectlite.Value.IsNil" 0) ReflectliteValue.isNil) (by kernel_rfl) (by kernel_rfl) fun args ha=>a4K hT hP (U5 hT hP _ _) (fun t a fl k h=>b74 hT hP t h fl k) ha
 ·obtain rfl:=Option.some.inj (Tryz.func162.symm.trans hfn);exact P9 (x:=ReflectliteValue.method (ReflectliteValue.valueError "reflectlite.Value.Elem" 0) ReflectliteValue.elem) (by kernel_rfl) (by kernel_rfl) fun args ha=>a4K hT hP (U5 hT hP _ _) (fun t a fl k h=>c0S hT hP t h fl k) ha
 ·obtain rfl:=Option.some.inj (Tryz.func163.symm.trans hfn);exact P9 (x:=ReflectliteValue.set) (by kernel_rfl) (by kernel_rfl) fun args ha=>c3X hT hP ha
 ·obtain rfl:=Option.some.inj (Tryz.func206.symm.trans hfn);exact P9 (x:=AbiNoEscape.same) (by kernel_rfl) (by kernel_rfl) fun args ha=>c2t ha
 ·obtain rfl:=Option.some.inj (Tryz.func207.symm.trans hfn);exact P9 (x:=BytealgMakeNoZero.makeNoZero Tryz.f207.params Tryz.f207.resultTypes) (by kernel_rfl) (by kernel_rfl) fun args ha=>a9I hP _ _ ha
 ·obtain rfl:=Option.some.inj (Tryz.func231.symm.trans hfn);exact P9 (x:=BytealgIndex.index) (by kernel_rfl) (by kernel_rfl) fun args ha=>c0T hP hG ha
 ·obtain rfl:=Option.some.inj (Tryz.func233.symm.trans hfn);exact P9 (x:=BytealgIndexByte.indexByte) (by kernel_rfl) (by kernel_rfl) fun args ha=>b1J ha
 ·obtain rfl:=Option.some.inj (Tryz.func247.symm.trans hfn);exact c0O (by kernel_rfl) (by kernel_rfl)
 ·obtain rfl:=Option.some.inj (Tryz.func248.symm.trans hfn);exact P9 (x:=ReflectliteType.abiMethod fun t=>do pure (.int .u8 (<-Rtype.kind t))) (by kernel_rfl) (by kernel_rfl) fun args ha=>b1I hT hP (fun t=>Sf.bind (a7E t) fun _ _=>Sf.pure (.int _ _)) args
 ·obtain rfl:=Option.some.inj (Tryz.func255.symm.trans hfn);exact P9 (x:=ReflectliteValue.method (pure (.int .u8 0)) fun _ _ _ k=>pure (.int .u8 (Int.ofNat k))) (by kernel_rfl) (by kernel_rfl) fun args ha=>a4K hT hP (Sf.pure (.int _ _)) (fun _ _ _ _ _=>Sf.pure (.int _ _)) ha
 ·obtain rfl:=Option.some.inj (Tryz.func259.symm.trans hfn);exact P9 (x:=ReflectliteType.relation "AssignableTo" ReflectliteType.assignableTo) (by kernel_rfl) (by kernel_rfl) fun args ha=>a7b hT hP (a7u hT hP) args
 ·obtain rfl:=Option.some.inj (Tryz.func260.symm.trans hfn);exact P9 (x:=ReflectliteType.method fun t=>do Rtype.noPackHeld "Comparable" t;pure (.bool (<-typeInfo t).comparable)) (by kernel_rfl) (by kernel_rfl) fun args ha=>b0w a9E args
 ·obtain rfl:=Option.some.inj (Tryz.func261.symm.trans hfn);exact P9 (x:=ReflectliteType.method ReflectliteType.elem) (by kernel_rfl) (by kernel_rfl) fun args ha=>b0w (c0R hT hP) args
 ·obtain rfl:=Option.some.inj (Tryz.func262.symm.trans hfn);exact P9 (x:=ReflectliteType.relation "Implements" ReflectliteType.implements_) (by kernel_rfl) (by kernel_rfl) fun args ha=>a7b hT hP (a8T hT hP) args
theorem pqk:∀Z',Le zone Z'->PQK Z' Tryz.prog:=fun Z' h=>by
 have at_:∀f fn,Z'.F f->Tryz.prog.funcs[f]?=some fn->b1G f=true/\b46 f=true/\fs.testBit f=true:=fun f fn hf _=>by
  have h1:=z_f h hf;have h2:=c2p f h1;exact⟨List.all_eq_true.1 codes f (List.mem_range.2 h2),List.all_eq_true.1 c5g f (List.mem_range.2 h2),h1⟩
 refine⟨pok h,fun f fn hf hfn=>?_,fun f fn hf hfn hb=>?_,fun f fn c hf hfn hb=>?_⟩
 ·obtain⟨h1,-,h3⟩:=at_ f fn hf hfn;unfold b1G at h1;rw[h3,hfn] at h1;simp only[Bool.not_true,Bool.false_or,Bool.and_eq_true] at h1;simpa using h1.1
 ·obtain⟨-,h1,h3⟩:=at_ f fn hf hfn;unfold b46 at h1;rw[h3,hfn] at h1;simp only[Bool.not_true,Bool.false_or,hb,Option.isSome_none] at h1;exact c2q h f (by simpa using h1) fn hfn
 ·obtain⟨h1,-,h3⟩:=at_ f fn hf hfn;unfold b1G at h1;rw[h3,hfn] at h1;simp only[Bool.not_true,Bool.false_or,Bool.and_eq_true,hb] at h1;exact(cOK.sound h1.2).mono h
end
section
open Go.RowKit Go.Conc
def Code.behind:Nat->Code->Code
 | 0,c=>c
 | n+1,c=>match c with
  | .seq _ b=>behind n b
  | c=>c
def Code.head:Code->Code
 | .seq a _=>a
 | c=>c
noncomputable def D8(n:Nat):Code:=Code.behind n (Tryz.f14.body.getD .skip)
noncomputable def c1D:Code:=match Code.head (D8 8) with|.seq _ (.block _ c)=>c|c=>c
noncomputable def R3:Code:=match c1D with|.loop c=>c|c=>c
noncomputable def a8k:Array Oper:=match Code.head (D8 9) with|.region _ ops _=>ops|_=>#[]
noncomputable def a5b:Code:=match R3 with|.seq _ (.seq _ (.seq (.block _ c) _))=>c|c=>c
theorem c3v:D8 9=.seq (.region 24 a8k false) (D8 10):=by kernel_rfl
theorem b2u:a8k=#[{dst:=some 78,op:=.call {callee:=.value (.func 63),args:=#[.tmp 13],argTypes:=#[149]},type:=0,pos:= "keydir.go:126",after:=#[],guard:=none}]:=by kernel_rfl
theorem round_eq:R3=.seq (.region 19 #[{dst:=some 73,op:=.binOp .lss 3 (.tmp 72) (.tmp 71) 3,type:=0,pos:= "keydir.go:117",after:=#[],guard:=none}] false)
 (.seq (.cond (.tmp 73) .skip (.exit 2)) (.seq (.block 3 a5b) (.region 23 #[{dst:=some 77,op:=.binOp .add 3 (.tmp 72) (.const (.int .i64 1)) 3,type:=3,pos:= "keydir.go:117",after:=#[],guard:=none},
   {dst:=some 72,op:=.move (.tmp 77),type:=3,pos:= "keydir.go:117",after:=#[{on:=0,ground:=.data}],guard:=none}] false))):=by kernel_rfl
theorem c1E:a5b=.seq (.region 20 #[{dst:=some 74,op:=.move (.tmp 72),type:=3,pos:= "keydir.go:117",after:=#[],guard:=none},{dst:=some 14,op:=.alloc 3,type:=0,pos:= "keydir.go:117",after:=#[],guard:=none},
 {dst:=none,op:=.store 3 (.tmp 14) (.tmp 74),type:=0,pos:= "keydir.go:117",after:=#[{on:=1,ground:=.data},{on:=0,ground:=.data},{on:=0,ground:=.phase},{on:=1,ground:=.phase}],guard:=none}] false)
 (.seq (.region 21 #[{dst:=some 75,op:=.call {callee:=.value (.func 58),args:=#[.tmp 13,.const (.int .i64 1)],argTypes:=#[149,3]},type:=0,pos:= "keydir.go:118",after:=#[],guard:=none}] false)
   (.region 22 #[{dst:=some 76,op:=.makeFunc (.func 59) #[] #[.tmp 13,.tmp 14,.tmp 6,.tmp 4,.tmp 11,.tmp 12],type:=1,pos:= "keydir.go:119",after:=#[],guard:=none},
     {dst:=none,op:=.go {callee:=.value (.tmp 76),args:=#[],argTypes:=#[]},type:=0,pos:= "keydir.go:119",after:=#[{on:=0,ground:=.data}],guard:=none}] false)):=by kernel_rfl
end
end Go.Proofs.YtgpbhjjajpbeeaaGreatDoor
