/- A part of what the last file proves. -/
import Derived.Test.YtgpbhjjajpbeeaaGreatDoorL06
import Derived.Maps.Keyed
import Derived.Laws.IdiomRangeMap
set_option linter.all false
set_option maxRecDepth 100000
namespace Go.Zn
section
open Go.Extern.Rtype
variable{Z:Zone}{P:Program}
theorem a4C(a:String)(t:TypeId):Sf Z P (fun _=>True) (noPack a t):=by
 unfold noPack;refine Sf.bind F6 fun p _=>?_;split
 ·exact H6 _ trivial
 ·exact Sf.pure trivial
theorem b0i(a:String)(t:TypeId):Sf Z P (fun _=>True) (noPackHeld a t):=by
 unfold noPackHeld;refine Sf.bind F6 fun p _=>Sf.bind F6 fun p _=>?_;split
 ·exact H6 _ trivial
 ·exact Sf.pure trivial
theorem a9y(a:String)(t:TypeId):Sf Z P (fun _=>True) (noPackNamed a t):=by
 unfold noPackNamed;refine Sf.bind F6 fun p _=>Sf.bind F6 fun p _=>?_;split
 ·exact H6 _ trivial
 ·exact Sf.pure trivial
theorem a0e(a:String)(t:TypeId):Sf Z P (fun _=>True) (noPackMethods a t):=by
 unfold noPackMethods;refine Sf.bind F6 fun p _=>Sf.bind F6 fun p _=>?_;split
 ·exact H6 _ trivial
 ·exact Sf.pure trivial
theorem a9z(t:TypeId):Sf Z P (fun _=>True) (spelt t):=Sf.bind (a9y _ _) fun _ _=>a3z t
theorem a3e(t:TypeId):Sf Z P (fun _=>True) (under t):=by
 unfold under;refine Sf.bind (I5 t) fun i _=>?_;split
 ·exact Sf.bind (I5 _) fun _ _=>Sf.pure trivial
 ·exact Sf.pure trivial
theorem a8o(t:TypeId):Sf Z P (fun _=>True) (kind t):=by
 unfold kind;refine Sf.bind (a3e t) fun x _=>?_;dsimp only;split<;>first|exact Sf.pure trivial|exact l7 _
theorem a9A(t:TypeId):Sf Z P (fun _=>True) (hasName t):=by
 unfold hasName;refine Sf.bind (I5 t) fun x _=>?_;split<;>exact Sf.pure trivial
theorem b3T(t:TypeId):Sf Z P (fun _=>True) (elem? t):=by
 unfold elem?;refine Sf.bind (a3e t) fun x _=>?_;split<;>exact Sf.pure trivial
theorem a1t(t v:TypeId):Sf Z P (fun _=>True) (implements t v):=by
 unfold implements;refine Sf.bind (a0e _ _) fun _ _=>Sf.bind (a0e _ _) fun _ _=>Sf.bind (a3e _) fun _ _=>Sf.bind (a3e _) fun _ _=>?_;split
 ·exact Sf.pure trivial
 ·exact Sf.bind (I5 _) fun _ _=>Sf.pure trivial
 ·exact Sf.pure trivial
theorem a7L(t v:TypeId):Sf Z P (fun _=>True) (directlyAssignable t v):=by
 unfold directlyAssignable;dsimp only;split
 ·exact Sf.pure trivial
 ·refine Sf.bind (R:=fun _=>True) (a9A t) fun b _=>?_;have rest:Sf Z P (fun _:Bool=>True) (do let __x <-under t;let __x_1 <-under v;match __x.snd.desc,__x_1.snd.desc with|.chan _ e,.chan .both e'=>pure (__x.fst==__x_1.fst||e==e')|_,_=>pure (__x.fst==__x_1.fst)):=by
   refine Sf.bind (a3e _) fun _ _=>Sf.bind (a3e _) fun _ _=>?_;split<;>exact Sf.pure trivial
  refine Sf.bind (R:=fun _=>True) (a9A v) fun b' _=>?_;split
  ·exact Sf.pure trivial
  ·exact rest
theorem a4m(h:Value):Sf Z P (fun _=>True) (ofHandle h):=by
 unfold ofHandle;refine Sf.bind F6 fun p _=>?_;split
 ·exact Sf.pure trivial
 ·exact l7 _
theorem b1b(hP:POK Z P)(t:TypeId):Sf Z P (VP Z) (handle t):=by
 unfold handle;refine Sf.bind F6 ?_;rintro p rfl;exact Sf.pure (.ptr _ hP.handle)
theorem a9B(n:String):Sf Z P (fun _=>True) (cutType n):=by
 unfold cutType;refine Sf.bind F6 fun p _=>?_;split
 ·exact Sf.pure trivial
 ·exact l7 _
def c6n(Z:Zone):Prop:=∀t,Z.T t
section
variable(hT:c6n Z)(hP:POK Z P)
include hT hP
open Go.Extern
theorem a7e(t:TypeId):Sf Z P (VP Z) (ReflectliteType.toType t):=by
 unfold ReflectliteType.toType;exact Sf.bind (a9B _) fun u _=>Sf.bind (b1b hP t) fun h hh=>Sf.pure (.iface _ _ (hT _) (.agg _ (AP.one hh)))
theorem b8M{args:Array Value}(_:AP Z args):Sf Z P (VP Z) (ReflectliteType.typeOf args):=by
 obtain⟨l⟩:=args;rcases l with _|⟨x,_|⟨y,l⟩⟩
 ·exact l7 _
 ·cases x<;>first|exact Sf.pure .nilIface|exact a7e hT hP _|exact l7 _
 ·cases x<;>exact l7 _
omit hT hP in
theorem a5q(v:Value):Sf Z P (fun _=>True) (ReflectliteType.ofRtype v):=by
 cases v<;>first|exact l7 _|skip
 rename_i c;obtain⟨l⟩:=c;rcases l with _|⟨x,_|⟨y,l⟩⟩
 ·exact l7 _
 ·exact Sf.bind (a4m _) fun _ _=>Sf.bind (a4C _ _) fun _ _=>Sf.pure trivial
 ·exact l7 _
theorem a1d{α:Type}{Q:α->Prop}(s:String):Sf Z P Q (panicString s:Sem α):=by
 unfold panicString
 first
  | exact a0v _
  | (refine Sf.bind F6 fun p _=>?_;exact a0v _)
omit hT hP in
theorem b1c{f:TypeId->Sem Value}(hf:∀t,Sf Z P (VP Z) (f t))(args:Array Value):Sf Z P (VP Z) (ReflectliteType.method f args):=by
 obtain⟨l⟩:=args;rcases l with _|⟨x,_|⟨y,l⟩⟩
 ·exact l7 _
 ·exact Sf.bind (a5q _) fun t _=>hf t
 ·exact l7 _
theorem c1P(t:TypeId):Sf Z P (VP Z) (ReflectliteType.elem t):=by
 unfold ReflectliteType.elem;refine Sf.bind (b3T t) fun e _=>?_;split
 ·exact a7e hT hP _
 ·exact Sf.bind (a9z _) fun _ _=>a1d hT hP _
omit hT hP in
theorem b0j(t:TypeId):Sf Z P (VP Z) (do noPackHeld "Comparable" t;pure (.bool (<-typeInfo t).comparable)):=Sf.bind (b0i _ _) fun _ _=>Sf.bind (I5 _) fun _ _=>Sf.pure (.bool _)
theorem a7M{a:String}{f:TypeId->TypeId->Sem Bool}(hf:∀t u,Sf Z P (fun _=>True) (f t u))(args:Array Value):Sf Z P (VP Z) (ReflectliteType.relation a f args):=by
 obtain⟨l⟩:=args;rcases l with _|⟨x,_|⟨y,_|⟨z,l⟩⟩⟩
 ·exact l7 _
 ·exact l7 _
 ·cases y<;>first
   | exact a1d hT hP _
   | exact Sf.bind (a5q _) fun _ _=>Sf.bind (a5q _) fun _ _=>Sf.bind (hf _ _) fun _ _=>Sf.pure (.bool _)
   | exact l7 _
 ·cases y<;>exact l7 _
theorem a9C(u t:TypeId):Sf Z P (fun _=>True) (ReflectliteType.implements_ u t):=by
 unfold ReflectliteType.implements_;refine Sf.bind (a8o u) fun k _=>?_;have rest:Sf Z P (fun _:Bool=>True) (do noPackMethods "Implements" t;noPack "Implements" u;implements u t):=Sf.bind (a0e _ _) fun _ _=>Sf.bind (a4C _ _) fun _ _=>a1t _ _;dsimp only;split
 ·exact Sf.bind (R:=fun _=>True) (a1d hT hP _) fun _ _=>rest
 ·exact rest
theorem a8d(u t:TypeId):Sf Z P (fun _=>True) (ReflectliteType.assignableTo u t):=by
 unfold ReflectliteType.assignableTo;have rest:Sf Z P (fun _:Bool=>True) (do pure ((<-directlyAssignable u t)||(<-implements u t))):=by
  refine Sf.bind (a7L u t) fun b _=>?_
  first
   | exact Sf.bind (a1t _ _) fun _ _=>Sf.pure trivial
   | (cases b
      ·exact Sf.bind (a1t _ _) fun _ _=>Sf.pure trivial
      ·exact Sf.pure trivial)
 dsimp only;split
 ·exact Sf.bind (a0e _ _) fun _ _=>Sf.bind (a0e _ _) fun _ _=>rest
 ·exact rest
theorem b2p{f:TypeId->Sem Value}(hf:∀t,Sf Z P (VP Z) (f t))(args:Array Value):Sf Z P (VP Z) (ReflectliteType.abiMethod f args):=by
 obtain⟨l⟩:=args;rcases l with _|⟨x,_|⟨y,l⟩⟩
 ·exact l7 _
 ·exact Sf.bind (a4m _) fun t _=>Sf.bind (a4C _ _) fun _ _=>hf t
 ·exact l7 _
theorem c3R(t:TypeId){a:Addr}(h:Z.D a.block)(fl:Nat):Sf Z P (VP Z) (ReflectliteValue.mk t a fl):=by
 unfold ReflectliteValue.mk;exact Sf.bind (b1b hP t) fun v hv=>Sf.bind (a8o t) fun k _=>Sf.pure (.agg _ (fun x hx=>by
  simp at hx;rcases hx with rfl|rfl|rfl
  ·exact hv
  ·exact .ptr a h
  ·exact .int _ _))
omit hT hP in
theorem b3U:VP Z ReflectliteValue.zeroV:=.agg _ fun x hx=>by
 simp at hx;rcases hx with rfl|rfl|rfl
 ·exact .pnil
 ·exact .int _ _
theorem b1d{v:Value}(h:VP Z v):Sf Z P (VP Z) (ReflectliteValue.unpack v):=by
 cases h with
 | nilIface=>exact Sf.pure b3U
 | iface t w ht hw=>exact Sf.bind (a1Y t hw) fun a ha=>c3R hT hP t ha 0
 | _=>exact l7 _
theorem a0j{α:Type}{Q:α->Prop}(m:String)(k:Nat):Sf Z P Q (ReflectliteValue.valueError m k:Sem α):=by
 unfold ReflectliteValue.valueError;exact Sf.bind (a9B _) fun t _=>Sf.bind (a0W _) fun e _=>Sf.bind (a1Y e (.agg _ fun x hx=>by
  simp at hx;rcases hx with rfl|rfl
  ·exact .string _
  ·exact .int _ _)) fun a _=>a0v _
theorem a7N{v:Value}(h:VP Z v):Sf Z P (fun o=>∀t a fl,o=some (t,a,fl)->Z.D a.block) (ReflectliteValue.partsAny v):=by
 have key:∀(hd:Value)(a:Addr)(f:Nat),Z.D a.block->Sf Z P (fun o=>∀t a fl,o=some (t,a,fl)->Z.D a.block) (do pure (some (<-ofHandle hd,a,f)):Sem (Option (TypeId×Addr×Nat))):=fun hd a f ha=>
  Sf.bind (a4m _) fun t _=>Sf.pure fun t' a' fl' e=>by
   simp only[Option.some.injEq,Prod.mk.injEq] at e;obtain⟨_,rfl,_⟩:=e;exact ha
 cases h<;>first|exact l7 _|skip
 rename_i c hc;obtain⟨l⟩:=c;rcases l with _|⟨x,_|⟨y,_|⟨z,_|⟨u,l⟩⟩⟩⟩
 ·exact l7 _
 ·exact l7 _
 ·exact l7 _
 ·have hy:=hc y (by simp);cases z<;>first|exact l7 _|skip
  rename_i k n;cases k<;>first|exact l7 _|skip
  cases n with
  | ofNat n=>
   cases n with
   | zero=>exact Sf.pure fun _ _ _ h=>by cases h
   | succ n=>
    cases hy with
    | ptr a ha=>exact key x a (n+1) ha
    | _=>exact l7 _
  | negSucc n=>
   cases hy with
   | ptr a ha=>exact key x a _ ha
   | _=>exact l7 _
 ·cases z<;>exact l7 _
theorem a9D{v:Value}(h:VP Z v):Sf Z P (fun o=>∀t a fl,o=some (t,a,fl)->Z.D a.block) (ReflectliteValue.parts v):=by
 unfold ReflectliteValue.parts;refine Sf.bind (a7N hT hP h) fun o ho=>?_;split
 ·exact Sf.bind (a4C _ _) fun _ _=>Sf.pure ho
 ·exact Sf.pure fun _ _ _ h=>by cases h
theorem a5r{zero:Sem Value}{f:TypeId->Addr->Nat->Nat->Sem Value}(hz:Sf Z P (VP Z) zero)(hf:∀t a fl k,Z.D a.block->Sf Z P (VP Z) (f t a fl k)){args:Array Value}(h:AP Z args):Sf Z P (VP Z) (ReflectliteValue.method zero f args):=by
 obtain⟨l⟩:=args;rcases l with _|⟨x,_|⟨y,l⟩⟩
 ·exact l7 _
 ·refine Sf.bind (a9D hT hP (h x (by simp))) fun o ho=>?_
  cases o with
  | none=>exact hz
  | some o=>obtain⟨t,a,fl⟩:=o;exact hf _ _ _ _ (ho _ _ _ rfl)
 ·exact l7 _
theorem b0k{zero:Sem Value}{f:TypeId->Addr->Nat->Nat->Sem Value}(hz:Sf Z P (VP Z) zero)(hf:∀t a fl k,Z.D a.block->Sf Z P (VP Z) (f t a fl k)){args:Array Value}(h:AP Z args):Sf Z P (VP Z) (ReflectliteValue.methodAny zero f args):=by
 obtain⟨l⟩:=args;rcases l with _|⟨x,_|⟨y,l⟩⟩
 ·exact l7 _
 ·refine Sf.bind (a7N hT hP (h x (by simp))) fun o ho=>?_
  cases o with
  | none=>exact hz
  | some o=>obtain⟨t,a,fl⟩:=o;exact hf _ _ _ _ (ho _ _ _ rfl)
 ·exact l7 _
theorem b8N(t:TypeId){a:Addr}(h:Z.D a.block)(fl k:Nat):Sf Z P (VP Z) (ReflectliteValue.isNil t a fl k):=by
 unfold ReflectliteValue.isNil;have rest:Sf Z P (VP Z) (do match <-loadVar t a with|.chan none|.nilFunc|.nilIface|.map none|.pointer none|.slice none _ _=>pure (.bool true)|_=>pure (.bool false)):=by
  refine Sf.bind (a0w t h) fun v _=>?_;split<;>exact Sf.pure (.bool _)
 dsimp only;split
 ·exact Sf.bind (R:=fun _=>True) (a0j hT hP _ _) fun _ _=>rest
 ·exact rest
theorem c1Q(t:TypeId){a:Addr}(h:Z.D a.block)(fl k:Nat):Sf Z P (VP Z) (ReflectliteValue.elem t a fl k):=by
 unfold ReflectliteValue.elem;have rest:Sf Z P (VP Z) (do match k,<-loadVar t a,<-elem? t with|20,i,_=>ReflectliteValue.unpack i|22,.pointer none,_=>pure ReflectliteValue.zeroV|22,.pointer (some p),some e=>ReflectliteValue.mk e p ReflectliteValue.flagAddr|_,_,_=>ReflectliteValue.valueError "reflectlite.Value.Elem" k):=by
  refine Sf.bind (a0w t h) fun v hv=>Sf.bind (b3T t) fun e _=>?_;split
  ·exact b1d hT hP hv
  ·exact Sf.pure b3U
  ·cases hv with
   | ptr a h=>exact c3R hT hP _ h _
  ·exact a0j hT hP _ _
 dsimp only;split
 ·exact Sf.bind (R:=fun _=>True) (a0j hT hP _ _) fun _ _=>rest
 ·exact rest
theorem c5g{args:Array Value}(h:AP Z args):Sf Z P (VP Z) (ReflectliteValue.set args):=by
 obtain⟨l⟩:=args;rcases l with _|⟨x,_|⟨y,_|⟨z,l⟩⟩⟩
 ·exact l7 _
 ·exact l7 _
 ·unfold ReflectliteValue.set;dsimp only;refine Sf.bind (a9D hT hP (h x (by simp))) fun o ho=>Sf.bind (a9D hT hP (h y (by simp))) fun o' ho'=>?_
  cases o with
  | none=>exact H6 _ trivial
  | some o=>
   cases o' with
   | none=>exact H6 _ trivial
   | some o'=>
    obtain⟨dst,a,fl⟩:=o;obtain⟨src,b,fl'⟩:=o';have ha:=ho _ _ _ rfl;have hb:=ho' _ _ _ rfl;have store:∀v,VP Z v->Sf Z P (VP Z) (do storeVar dst a v;pure (.tuple #[])):=fun v hv=>Sf.bind (a7B dst ha hv) fun _ _=>Sf.pure (.tuple _ AP.nil);have rest:Sf Z P (VP Z) (do
     let val <-loadVar src b
     if <-directlyAssignable dst src then storeVar dst a val
     else if <-implements dst src then
      if (<-kind src)==20 then
       match val with
       | .nilIface=>unsupported (.noEntry "extern/reflectlite: a nil value of one interface type handed on as a value of another")
       | _=>storeVar dst a val
      else storeVar dst a (.iface src val)
     else panicString ("reflectlite.Set: value of type "++(<-spelt src)++ " is not assignable to type "++(<-spelt dst))
     pure (.tuple #[])):=by
     refine Sf.bind (a0w src hb) fun val hval=>Sf.bind (a7L dst src) fun d _=>?_;split
     ·exact store _ hval
     ·refine Sf.bind (a1t dst src) fun i _=>?_;split
      ·refine Sf.bind (a8o src) fun k _=>?_;split
       ·split
        ·exact Sf.bind (R:=fun _=>True) (H6 _ trivial) fun _ _=>Sf.pure (.tuple _ AP.nil)
        ·exact store _ hval
       ·exact store _ (.iface _ _ (hT _) hval)
      ·exact Sf.bind (a9z _) fun _ _=>Sf.bind (a9z _) fun _ _=>Sf.bind (R:=fun _=>True) (a1d hT hP _) fun _ _=>Sf.pure (.tuple _ AP.nil)
    dsimp only;split
    ·exact Sf.bind (R:=fun _=>True) (H6 _ trivial) fun _ _=>rest
    ·exact rest
 ·exact l7 _
omit hT hP in
theorem c3C{args:Array Value}(h:AP Z args):Sf Z P (VP Z) (AbiNoEscape.same args):=by
 obtain⟨l⟩:=args;rcases l with _|⟨x,_|⟨y,l⟩⟩
 ·exact l7 _
 ·exact Sf.pure (h x (by simp))
 ·exact l7 _
omit hT hP in
theorem b0l{a:Addr}(h:Z.D a.block)(n:Nat):∀acc,Sf Z P (fun _=>True) (Bytes.loadBytes a n acc):=by
 induction n generalizing a with
 | zero=>intro acc;exact Sf.pure trivial
 | succ n ih=>
  intro acc;unfold Bytes.loadBytes;refine Sf.bind (a6e h) fun v _=>?_;split
  ·exact ih (by unfold Addr.add;split<;>exact h) _
  ·exact l7 _
omit hT hP in
theorem a5s{v:Value}(h:VP Z v):Sf Z P (fun _=>True) (Bytes.bytesOf v):=by
 cases h with
 | string s=>exact Sf.pure trivial
 | snil n c=>exact Sf.pure trivial
 | slice a n c ha=>exact b0l ha _ _
 | _=>exact l7 _
omit hT hP in
theorem b8O(v:Value):Sf Z P (fun _=>True) (Bytes.asByte v):=by
 unfold Bytes.asByte;split
 ·exact Sf.pure trivial
 ·exact l7 _
omit hT hP in
theorem b2q{args:Array Value}(h:AP Z args):Sf Z P (VP Z) (BytealgIndexByte.indexByte args):=by
 obtain⟨l⟩:=args;rcases l with _|⟨x,_|⟨y,_|⟨z,l⟩⟩⟩
 ·exact l7 _
 ·exact l7 _
 ·unfold BytealgIndexByte.indexByte;refine Sf.bind (a5s (h x (by simp))) fun b _=>Sf.bind (b8O _) fun c _=>?_;split<;>exact Sf.pure (.int _ _)
 ·exact l7 _
omit hT in
theorem b0m(hG:∀b,b<P.globals.size->Z.D b)(n:String):Sf Z P (fun a=>Z.D a.block) (globalAddr n):=by
 unfold globalAddr;refine Sf.bind F6 ?_;rintro p rfl;split
 ·rename_i g hg;exact Sf.pure (hG _ (Array.findIdx?_eq_some_iff_getElem.1 hg).1)
 ·exact l7 _
omit hT in
theorem c1R(hG:∀b,b<P.globals.size->Z.D b){args:Array Value}(h:AP Z args):Sf Z P (VP Z) (BytealgIndex.index args):=by
 obtain⟨l⟩:=args;rcases l with _|⟨x,_|⟨y,_|⟨z,l⟩⟩⟩
 ·exact l7 _
 ·exact l7 _
 ·unfold BytealgIndex.index BytealgIndex.maxLen;refine Sf.bind (a5s (h x (by simp))) fun b _=>Sf.bind (a5s (h y (by simp))) fun c _=>Sf.bind (R:=fun _=>True) (Sf.bind (b0m hP hG _) fun a ha=>Sf.bind (a6e ha) fun v _=>a1D _) fun n _=>?_;have last:Sf Z P (VP Z) (match (List.range (b.size+1 - c.size)).find? fun i=>b.extract i (i+c.size)==c with|some i=>pure (goInt i)|none=>pure (goInt (-1))):=by
   split<;>exact Sf.pure (.int _ _)
  have rest:Sf Z P (VP Z) (do
   if b.size ≥ 2^32 - 15 then unsupported (.noEntry "extern/internal/bytealg.Index: a haystack of 2^32 - 15 bytes or more")
   match (List.range (b.size+1 - c.size)).find? fun i=>b.extract i (i+c.size)==c with|some i=>pure (goInt i)|none=>pure (goInt (-1))):=by
   dsimp only;split
   ·exact Sf.bind (R:=fun _=>True) (H6 _ trivial) fun _ _=>last
   ·exact last
  exact O5 _ (Sf.bind (R:=fun _=>True) (H6 _ trivial) fun _ _=>rest) rest
 ·exact l7 _
omit hT hP in
theorem b1e:∀(n t:Nat){acc:Array Value},AP Z acc->AP Z (BytealgMakeNoZero.digits n t acc)
 | 0,_,_,h=>h
 | n+1,t,_,h=>b1e n (t/256) (h.push (.int _ _))
omit hT in
theorem b0n(ps rs:Array TypeId){args:Array Value}(_:AP Z args):Sf Z P (VP Z) (BytealgMakeNoZero.makeNoZero ps rs args):=by
 obtain⟨l⟩:=args;rcases l with _|⟨x,_|⟨y,l⟩⟩
 ·exact l7 _
 ·cases x with
  | int k n=>
   cases k<;>first|exact l7 _|skip
   show Sf Z P (VP Z) (BytealgMakeNoZero.makeNoZero ps rs #[.int .i64 n]);unfold BytealgMakeNoZero.makeNoZero;have rest:∀elem,Sf Z P (VP Z) (do
    let cap <-choose (.appendCap n.toNat 0 elem)
    askRoom cap
    let bytes <-choose (.extern "internal/bytealg.MakeNoZero.bytes" 0)
    let a <-newRow elem (BytealgMakeNoZero.digits cap bytes #[])
    pure (.slice (some a) n.toNat cap)):=fun elem=>
    Sf.bind (N7 _) fun c _=>Sf.bind (a3y _) fun _ _=>Sf.bind (N7 _) fun b _=>Sf.bind (a0c elem (b1e _ _ AP.nil)) fun a ha=>Sf.pure (.slice _ _ _ ha)
   dsimp only;split
   ·refine Sf.bind (o6 _) fun d _=>?_;split
    ·split
     ·exact Sf.bind (R:=fun _=>True) (o9 hP _) fun _ _=>rest _
     ·exact rest _
    ·exact l7 _
   ·exact l7 _
  | _=>exact l7 _
 ·cases x with
  | int k n=>cases k<;>exact l7 _
  | _=>exact l7 _
omit hT in
theorem b8P(t:Extern.Atomic.T){args:Array Value}(h:AP Z args):Sf Z P (VP Z) (Atomic.loadT t args):=by
 obtain⟨l⟩:=args;rcases l with _|⟨x,_|⟨y,l⟩⟩
 ·exact l7 _
 ·unfold Atomic.loadT Atomic.read;refine Sf.bind (a1Z hP (h x (by simp))) fun a ha=>Sf.bind (c1r ha) fun v hv=>?_;split<;>first|exact Sf.pure hv|exact H6 _ trivial|skip
  split
  ·exact Sf.pure hv
  ·exact H6 _ trivial
 ·exact l7 _
end
end
section
structure ZB where
 F:FuncId->Bool
 T:TypeId->Bool
 N:String->Bool
 G:Nat
def ZB.zone(B:ZB):Zone:={D:=fun b=>b<=B.G,F:=fun f=>B.F f=true,T:=fun t=>B.T t=true,N:=fun n=>B.N n=true,Y:=fun _=>False}
variable(B:ZB)
def b8s:Fn->Bool
 | .func f=>B.F f
 | .method n=>B.N n
 | _=>false
def vOK:Nat->Value->Bool
 | 0,_=>false
 | n+1,v=>match v with
  | .bool _|.int .. | .float .. | .complex .. | .string _|.pointer none|.slice none _ _|.map none|.chan none|.nilFunc|.nilIface=>true
  | .pointer (some a)=>decide (a.block<=B.G)
  | .func fn f c=>b8s B fn&&f.toList.all (vOK n)&&c.toList.all (vOK n)
  | .iface t v=>B.T t&&vOK n v
  | .agg c|.tuple c=>c.toList.all (vOK n)
  | _=>false
def b04:Operand->Bool
 | .tmp _=>true
 | .const v=>vOK B 8 v
 | .global g=>decide (g<=B.G)
 | .func f=>B.F f
def b3E:Callee->Bool
 | .invoke _ n=>B.N n
 | .builtin b=>bOK b
 | .value _=>true
def c6j:Op->Bool
 | .makeInterface t _=>B.T t
 | .makeFunc fn _ _=>b8s B fn
 | .call c=>b3E B c.callee
 | .go _|.defer _|.send .. | .recv .. | .select .. | .makeChan .. | .ready _|.waits _|.mapEntry .. | .entryStore .. | .sliceToArrayPointer ..=>false
 | _=>true
def b8t(o:Op):Bool:=c6j B o&&o.operands.toList.all (b04 B)
def cOK:Code->Bool
 | .seq a b=>cOK a&&cOK b
 | .cond _ a b=>cOK a&&cOK b
 | .block _ b=>cOK b
 | .loop b=>cOK b
 | .scope b=>cOK b
 | .region _ ops _=>ops.toList.all fun o=>b8t B o.op
 | .rangeFunc f _ assign body=>b04 B f&&cOK assign&&cOK body
 | _=>true
variable{B}
theorem b8s.sound{f:Fn}(h:b8s B f=true):FnP B.zone f:=by
 cases f with
 | func f=>exact .func f h
 | method n=>exact .method n h
 | _=>cases h
theorem vOK.sound:∀(n:Nat)(v:Value),vOK B n v=true->VP B.zone v:=by
 intro n
 induction n with
 | zero=>intro v h;cases h
 | succ n ih=>
  have all:∀c:Array Value,c.toList.all (vOK B n)=true->∀x∈c,VP B.zone x:=fun c hc x hx=>ih x (List.all_eq_true.1 hc x (by simpa using hx));intro v h;unfold vOK at h;split at h<;>first|(constructor;done)|skip
  ·rename_i a;exact .ptr a (of_decide_eq_true (p:=a.block<=B.G) h:a.block<=B.G)
  ·rename_i fn f c;simp only[Bool.and_eq_true] at h;exact .func fn f c (b8s.sound h.1.1) (all f h.1.2) (all c h.2)
  ·rename_i t v;simp only[Bool.and_eq_true] at h;exact .iface t v h.1 (ih v h.2)
  ·exact .agg _ (all _ h)
  ·exact .tuple _ (all _ h)
  ·cases h
theorem b04.sound{x:Operand}(h:b04 B x=true):b5o B.zone x:=by
 cases x with
 | tmp t=>trivial
 | const v=>exact vOK.sound _ _ h
 | global g=>exact(of_decide_eq_true (p:=g<=B.G) h:g<=B.G)
 | func f=>exact h
theorem b8t.sound{o:Op}(h:b8t B o=true):OpP B.zone o:=by
 unfold b8t at h;simp only[Bool.and_eq_true] at h;refine⟨?_,fun x hx=>b04.sound (List.all_eq_true.1 h.2 x (by simpa using hx))⟩;have h1:=h.1;cases o<;>first|trivial|exact h1|(exact b8s.sound h1)|(cases h1;done)|skip
 rename_i c;show a4x B.zone c.callee;have h2:b3E B c.callee=true:=h1;cases hc:c.callee<;>rw[hc] at h2<;>first|exact h2|trivial
theorem cOK.sound:∀{c:Code},cOK B c=true->CodeP B.zone c:=by
 intro c
 induction c with
 | seq a b iha ihb=>intro h;simp only[cOK,Bool.and_eq_true] at h;exact⟨iha h.1,ihb h.2⟩
 | cond _ a b iha ihb=>intro h;simp only[cOK,Bool.and_eq_true] at h;exact⟨iha h.1,ihb h.2⟩
 | block _ b ih=>intro h;exact ih h
 | loop b ih=>intro h;exact ih h
 | scope b ih=>intro h;exact ih h
 | region _ ops _=>intro h o ho;exact b8t.sound (List.all_eq_true.1 (show ops.toList.all (fun o=>b8t B o.op)=true from h) o (by simpa using ho))
 | rangeFunc f _ a b iha ihb=>intro h;simp only[cOK,Bool.and_eq_true] at h;exact⟨b04.sound h.1.1,iha h.1.2,ihb h.2⟩
 | _=>intro _;trivial
end
section
open Go.Made
variable{Z:Zone}
def ZOK(Z:Zone)(i:TypeInfo):Prop:=∀z,i.zero=some z->VP Z z
theorem b8Q{α β:Type}(P:β->Prop)(f:α->β->Option (ForInStep β))(hf:∀a b s,P b->f a b=some s->P (match s with|.yield b=>b|.done b=>b)):
 ∀(l:List α)(b b':β),P b->forIn l b f=some b'->P b':=by
 intro l
 induction l with
 | nil=>intro b b' h e;simp at e;exact e▸h
 | cons a l ih=>
  intro b b' h e;rw[List.forIn_cons] at e
  cases hs:f a b with
  | none=>rw[hs] at e;cases e
  | some s=>
   rw[hs] at e;have:=hf a b s h hs
   cases s with
   | yield b1=>exact ih b1 b' this e
   | done b1=>simp at e;exact e▸this
theorem a4D{d:TypeDesc}{s:String}{z:Value}{c:Bool}{n:Nat}(h:VP Z z):ZOK Z (word d s z c n)/\(word d s z c n).methods=#[]:=⟨fun z' e=>by
 simp only[word,Option.some.injEq] at e;exact e▸h,rfl⟩
theorem b8R{info:TypeId->Option TypeInfo}(hi:∀t i,info t=some i->ZOK Z i){fs:Array Field}{i:TypeInfo}(h:reckonStruct info fs=some i):ZOK Z i/\i.methods=#[]:=by
 unfold reckonStruct at h;simp only[bind,Option.bind_eq_some_iff] at h;obtain⟨a,ha,hr⟩:=h;rw[<-Array.forIn_toList] at ha;have key:∀zs,a.2.2.2.2.2.2.2.1=some zs->AP Z zs:=by
  refine b8Q (P:=fun b=>∀zs,b.2.2.2.2.2.2.2.1=some zs->AP Z zs) _ ?_ _ _ _ ?_ ha
  ·intro f b s hb e;obtain⟨i,hi',e⟩:=Option.bind_eq_some_iff.1 e;have hz:=hi _ _ hi';have fin:∀zs,(if b.2.1+i.size>mostCells then none else b.2.2.2.2.2.2.2.1.bind fun x=>i.zero.bind fun y=>pure (x++y.cells))=some zs->AP Z zs:=by
    intro zs h;split at h
    ·cases h
    ·obtain⟨x,hx,h⟩:=Option.bind_eq_some_iff.1 h;obtain⟨y,hy,h⟩:=Option.bind_eq_some_iff.1 h;injection h with h;subst h;exact(hb x hx).append (hz y hy).cells
   by_cases h1:i.str.isEmpty=true
   ·rw[if_pos h1] at e;simp at e
   rw[if_neg h1] at e;by_cases h2:f.embedded=true
   ·simp[h2] at e
   rw[if_neg h2] at e;have tail:∀tag,(fun tag:String=>if i.bytes=0 then pure (f:=Option) (ForInStep.yield (b.1.push {name:=f.name,type:=f.type,offset:=b.2.1,embedded:=f.embedded,tag:=f.tag,pkgPath:=f.pkgPath,byteOffset:=roundUp b.2.2.1 i.align},b.2.1+i.size,roundUp b.2.2.1 i.align+i.bytes,max b.2.2.2.1 i.align,roundUp b.2.2.1 i.align+i.bytes,b.2.2.2.2.2.1||i.hasPointers,b.2.2.2.2.2.2.1&&i.comparable,(if b.2.1+i.size>mostCells then none else b.2.2.2.2.2.2.2.1.bind fun x=>i.zero.bind fun y=>pure (x++y.cells)),b.2.2.2.2.2.2.2.2++ " "++f.name++ " "++i.str++tag++if b.1.size+1<fs.size then ";" else "")) else pure (ForInStep.yield (b.1.push {name:=f.name,type:=f.type,offset:=b.2.1,embedded:=f.embedded,tag:=f.tag,pkgPath:=f.pkgPath,byteOffset:=roundUp b.2.2.1 i.align},b.2.1+i.size,roundUp b.2.2.1 i.align+i.bytes,max b.2.2.2.1 i.align,b.2.2.2.2.1,b.2.2.2.2.2.1||i.hasPointers,b.2.2.2.2.2.2.1&&i.comparable,(if b.2.1+i.size>mostCells then none else b.2.2.2.2.2.2.2.1.bind fun x=>i.zero.bind fun y=>pure (x++y.cells)),b.2.2.2.2.2.2.2.2++ " "++f.name++ " "++i.str++tag++if b.1.size+1<fs.size then ";" else ""))) tag=some s->(match s with|.yield b=>∀zs,b.2.2.2.2.2.2.2.1=some zs->AP Z zs|.done b=>∀zs,b.2.2.2.2.2.2.2.1=some zs->AP Z zs):=by
    intro tag h;dsimp only at h;split at h<;>(injection h with h;subst h;exact fin)
   split at e
   ·obtain⟨tag,_,e⟩:=Option.bind_eq_some_iff.1 e;cases s<;>exact tail tag e
   ·obtain⟨tag,_,e⟩:=Option.bind_eq_some_iff.1 e;cases s<;>exact tail tag e
  ·intro zs h;injection h with h;subst h;exact AP.nil
 split at hr<;>(injection hr with hr;subst hr;refine⟨fun z h=>?_,rfl⟩;obtain⟨c,hc,rfl⟩:=Option.map_eq_some_iff.1 h;exact .agg _ (key c hc))
theorem b8S{info:TypeId->Option TypeInfo}(hi:∀t i,info t=some i->ZOK Z i){d:TypeDesc}{i:TypeInfo}(h:reckon info d=some i):ZOK Z i/\i.methods=#[]:=by
 cases d with
 | pointer e=>
  simp only[reckon,bind,Option.bind_eq_some_iff] at h;obtain⟨j,_,h⟩:=h;split at h
  ·cases h
  ·split at h
   ·cases h
   ·obtain⟨s,_,h⟩:=Option.bind_eq_some_iff.1 h;injection h with h;subst h;exact a4D .pnil
  ·obtain⟨s,_,h⟩:=Option.bind_eq_some_iff.1 h;injection h with h;subst h;exact a4D .pnil
 | slice e=>
  simp only[reckon,bind,Option.bind_eq_some_iff] at h;obtain⟨j,_,s,_,h⟩:=h
  injection h with h;subst h;exact a4D (.snil _ _)
 | map k e=>
  simp only[reckon,bind,Option.bind_eq_some_iff] at h;obtain⟨j,_,s,_,j',_,s',_,h⟩:=h
  injection h with h;subst h;exact a4D .mnil
 | chan dir e=>
  simp only[reckon,bind,Option.bind_eq_some_iff] at h;obtain⟨j,_,s,_,h⟩:=h
  injection h with h;subst h;exact a4D .cnil
 | func ps rs v=>
  simp only[reckon,bind,Option.bind_eq_some_iff] at h;obtain⟨s,_,h⟩:=h
  injection h with h;subst h;exact a4D .nilFunc
 | array n e=>
  simp only[reckon,bind,Option.bind_eq_some_iff] at h;obtain⟨j,hj,s,_,h⟩:=h;injection h with h;subst h;refine⟨fun z h=>?_,rfl⟩;dsimp only at h;split at h
  ·cases h
  ·split at h
   ·injection h with h;subst h;exact .agg _ AP.nil
   ·obtain⟨z',hz',rfl⟩:=Option.map_eq_some_iff.1 h;have hc:=(hi _ _ hj z' hz').cells;refine .agg _ fun x hx=>?_;simp only[Array.mem_flatten,Array.mem_replicate] at hx;obtain⟨l,⟨_,rfl⟩,hx⟩:=hx
    exact hc x hx
 | struct fs=>exact b8R hi h
 | _=>cases h
theorem b1f{T:Tables}(hT:∀(t:Nat)(i:TypeInfo),T.types[t]?=some i->ZOK Z i):∀f t i,Made.infoAt T f t=some i->ZOK Z i/\(T.types.size<=t->i.methods=#[])
 | 0,_,_,h=>by cases h
 | f+1,t,i,h=>by
  unfold Made.infoAt at h;split at h
  ·rename_i hlt;exact⟨hT t i h,fun hge=>absurd hlt (Nat.not_lt.mpr hge)⟩
  ·obtain⟨d,_,h⟩:=Option.bind_eq_some_iff.1 h;have:=b8S (fun t i h=>(b1f hT f t i h).1) h;exact⟨this.1,fun _=>this.2⟩
theorem info_ok{T:Tables}(hT:∀(t:Nat)(i:TypeInfo),T.types[t]?=some i->ZOK Z i){t:TypeId}{i:TypeInfo}(h:T.info? t=some i):ZOK Z i/\(T.types.size<=t->i.methods=#[]):=by
 unfold Tables.info? at h;split at h
 ·rename_i hlt;exact⟨hT t i h,fun hge=>absurd hlt (Nat.not_lt.mpr hge)⟩
 ·exact b1f hT _ t i h
theorem info_old{T:Tables}{t:TypeId}(ht:t<T.types.size){i:TypeInfo}(h:T.info? t=some i):T.types[t]?=some i:=by
 unfold Tables.info? at h;rw[if_pos ht] at h;exact h
end
end Go.Zn
namespace Go.Proofs.YtgpbhjjajpbeeaaGreatDoor
section
open Go.RowKit Go.Zn Go.Extern
def fs:Nat:=13968099261131126359713065202646624295774213882799324763965390427744041519001600
def zb:ZB:={F:=fun f=>fs.testBit f,T:=fun _=>true,N:=fun n=>["Comparable","AssignableTo","Is","Kind","Elem","As","Unwrap","Implements"].contains n,G:=7}
def zone:Zone:=zb.zone
noncomputable def b2n(f:Nat):Bool:=!fs.testBit f||(match Tryz.prog.funcs[f]? with
 | some fn=>(fn.name != "runtime.NumGoroutine")&&(match fn.body with|some c=>cOK zb c|none=>true)
 | none=>true)
theorem codes:(List.range 263).all b2n=true:=by kernel_rfl
theorem c3y:∀f,fs.testBit f=true->f<263:=fun f h=>by
 rcases Nat.lt_or_ge f 263 with h1|h1
 ·exact h1
 ·obtain⟨k,rfl⟩:∃k,f=250+k:=⟨f - 250,by omega⟩;rw[Nat.testBit_lt_two_pow (Nat.lt_of_lt_of_le (by decide:fs<2^250*2^13) (by rw[Nat.pow_add];exact Nat.mul_le_mul_left _ (Nat.pow_le_pow_right (by decide) (by omega))))] at h;cases h
noncomputable def b5J(f:Nat):Bool:=!fs.testBit f||(match Tryz.prog.funcs[f]? with
 | some fn=>fn.body.isSome||[97,118,119,120,121,162,163,206,207,231,233,247,248,255,259,260,261,262].contains f
 | none=>true)
theorem c6D:(List.range 263).all b5J=true:=by kernel_rfl
def typeAt(i:TypeInfo):Bool:=(match i.zero with|some z=>vOK zb 6 z|none=>true)&&i.methods.toList.all fun m=>!zb.N m.name||(match m.func with|some (f,_)=>fs.testBit f|none=>true)
theorem types:Tryz.prog.types.toList.all typeAt=true:=by kernel_rfl
theorem globals_size:Tryz.prog.globals.size=7:=by kernel_rfl
variable{Z':Zone}
theorem c6l(h:Le zone Z'):c6n Z':=fun t=>h.T▸(rfl:zb.T t=true)
theorem pok(h:Le zone Z'):POK Z' Tryz.prog:=by
 have hty:∀(t:Nat)(i:TypeInfo),Tryz.prog.types[t]?=some i->typeAt i=true:=fun t i hi=>List.all_eq_true.1 types i (by rw[<-Array.getElem?_toList] at hi;exact List.mem_of_getElem? hi);have hz:∀(t:Nat)(i:TypeInfo),Tryz.prog.types[t]?=some i->ZOK Z' i:=fun t i hi z hzz=>by
  have h1:=hty t i hi;unfold typeAt at h1;simp only[Bool.and_eq_true] at h1;rw[hzz] at h1;exact(vOK.sound _ _ h1.1).mono h
 refine⟨fun t i z hi=>(info_ok (Z:=Z') hz hi).1 z,h.D _ (show Tryz.prog.globals.size<=7 by rw[globals_size];exact Nat.le_refl _),fun t i _ hi m hm hN f p hf=>?_⟩;rcases Nat.lt_or_ge t Tryz.prog.types.size with ht|ht
 ·have h1:=hty t i (info_old ht hi);unfold typeAt at h1;simp only[Bool.and_eq_true] at h1;have h2:=List.all_eq_true.1 h1.2 m (by simpa using hm);rw[hf] at h2;have hN':zb.N m.name=true:=by rw[h.N] at hN;exact hN
  rw[hN'] at h2;rw[h.F];exact(by simpa using h2:fs.testBit f=true)
 ·rw[(info_ok (Z:=Z') hz hi).2 ht] at hm;simp at hm
theorem z_f(h:Le zone Z'){f:FuncId}(hf:Z'.F f):fs.testBit f=true:=by rw[h.F] at hf;exact hf
theorem c6m(h:Le zone Z'):∀b,b<Tryz.prog.globals.size->Z'.D b:=fun b hb=>h.D b (by rw[globals_size] at hb;exact Nat.le_of_lt hb)
theorem Y7{fn:Func}{x:Array Value->Sem Value}(hn:Extern.findNext fn=none)(hf:Extern.find fn=some x)(hx:∀args,AP Z' args->Sf Z' Tryz.prog (VP Z') (x args)):
 (∀e args,Extern.findNext fn=some e->AP Z' args->Sf Z' Tryz.prog (a1G Z') (e args))/\(∀e args,Extern.find fn=some e->AP Z' args->Sf Z' Tryz.prog (VP Z') (e args)):=
 ⟨fun e args h=>absurd h (by rw[hn];simp),fun e args h ha=>(Option.some.inj (hf.symm.trans h))▸hx args ha⟩
theorem c1M{fn:Func}(hn:Extern.findNext fn=none)(hf:Extern.find fn=none):
 (∀e args,Extern.findNext fn=some e->AP Z' args->Sf Z' Tryz.prog (a1G Z') (e args))/\(∀e args,Extern.find fn=some e->AP Z' args->Sf Z' Tryz.prog (VP Z') (e args)):=
 ⟨fun e args h=>absurd h (by rw[hn];simp),fun e args h=>absurd h (by rw[hf];simp)⟩
theorem c3z(h:Le zone Z'):∀f∈[97,118,119,120,121,162,163,206,207,231,233,247,248,255,259,260,261,262],∀fn,Tryz.prog.funcs[f]?=some fn->
 (∀e args,Extern.findNext fn=some e->AP Z' args->Sf Z' Tryz.prog (a1G Z') (e args))/\(∀e args,Extern.find fn=some e->AP Z' args->Sf Z' Tryz.prog (VP Z') (e args)):=by
 have hP:=pok h;have hT:=c6l h;have hG:=c6m h;intro f hf fn hfn;simp only[List.mem_cons,List.not_mem_nil,or_false] at hf;rcases hf with rfl|rfl|rfl|rfl|rfl|rfl|rfl|rfl|rfl|rfl|rfl|rfl|rfl|rfl|rfl|rfl|rfl|rfl
 ·obtain rfl:=Option.some.inj (Tryz.func97.symm.trans hfn);exact Y7 (x:=ReflectliteType.typeOf) (by kernel_rfl) (by kernel_rfl) fun args ha=>b8M hT hP ha
 ·obtain rfl:=Option.some.inj (Tryz.func118.symm.trans hfn);exact Y7 (x:=Atomic.loadT (.int .i64)) (by kernel_rfl) (by kernel_rfl) fun args ha=>b8P hP _ ha
 ·obtain rfl:=Option.some.inj (Tryz.func119.symm.trans hfn);exact Y7 (x:=fun args=>ReflectliteValue.unpack (args.getD 0 (.tuple #[]))) (by kernel_rfl) (by kernel_rfl) fun args ha=>b1d hT hP (ha.getD 0 (.tuple _ AP.nil))
 ·obtain rfl:=Option.some.inj (Tryz.func120.symm.trans hfn);exact Y7 (x:=ReflectliteValue.methodAny (ReflectliteValue.valueError "reflectlite.Value.Type" 0) fun t _ _ _=>ReflectliteType.toType t) (by kernel_rfl) (by kernel_rfl) fun args ha=>b0k hT hP (a0j hT hP _ _) (fun t _ _ _ _=>a7e hT hP t) ha
 ·obtain rfl:=Option.some.inj (Tryz.func121.symm.trans hfn);exact Y7 (x:=ReflectliteValue.method (ReflectliteValue.valueError "reflectlite.Value.IsNil" 0) ReflectliteValue.isNil) (by kernel_rfl) (by kernel_rfl) fun args ha=>a5r hT hP (a0j hT hP _ _) (fun t a fl k h=>b8N hT hP t h fl k) ha
 ·obtain rfl:=Option.some.inj (Tryz.func162.symm.trans hfn);exact Y7 (x:=ReflectliteValue.method (ReflectliteValue.valueError "reflectlite.Value.Elem" 0) ReflectliteValue.elem) (by kernel_rfl) (by kernel_rfl) fun args ha=>a5r hT hP (a0j hT hP _ _) (fun t a fl k h=>c1Q hT hP t h fl k) ha
 ·obtain rfl:=Option.some.inj (Tryz.func163.symm.trans hfn);exact Y7 (x:=ReflectliteValue.set) (by kernel_rfl) (by kernel_rfl) fun args ha=>c5g hT hP ha
 ·obtain rfl:=Option.some.inj (Tryz.func206.symm.trans hfn);exact Y7 (x:=AbiNoEscape.same) (by kernel_rfl) (by kernel_rfl) fun args ha=>c3C ha
 ·obtain rfl:=Option.some.inj (Tryz.func207.symm.trans hfn);exact Y7 (x:=BytealgMakeNoZero.makeNoZero Tryz.f207.params Tryz.f207.resultTypes) (by kernel_rfl) (by kernel_rfl) fun args ha=>b0n hP _ _ ha
 ·obtain rfl:=Option.some.inj (Tryz.func231.symm.trans hfn);exact Y7 (x:=BytealgIndex.index) (by kernel_rfl) (by kernel_rfl) fun args ha=>c1R hP hG ha
 ·obtain rfl:=Option.some.inj (Tryz.func233.symm.trans hfn);exact Y7 (x:=BytealgIndexByte.indexByte) (by kernel_rfl) (by kernel_rfl) fun args ha=>b2q ha
 ·obtain rfl:=Option.some.inj (Tryz.func247.symm.trans hfn);exact c1M (by kernel_rfl) (by kernel_rfl)
 ·obtain rfl:=Option.some.inj (Tryz.func248.symm.trans hfn);exact Y7 (x:=ReflectliteType.abiMethod fun t=>do pure (.int .u8 (<-Rtype.kind t))) (by kernel_rfl) (by kernel_rfl) fun args ha=>b2p hT hP (fun t=>Sf.bind (a8o t) fun _ _=>Sf.pure (.int _ _)) args
 ·obtain rfl:=Option.some.inj (Tryz.func255.symm.trans hfn);exact Y7 (x:=ReflectliteValue.method (pure (.int .u8 0)) fun _ _ _ k=>pure (.int .u8 (Int.ofNat k))) (by kernel_rfl) (by kernel_rfl) fun args ha=>a5r hT hP (Sf.pure (.int _ _)) (fun _ _ _ _ _=>Sf.pure (.int _ _)) ha
 ·obtain rfl:=Option.some.inj (Tryz.func259.symm.trans hfn);exact Y7 (x:=ReflectliteType.relation "AssignableTo" ReflectliteType.assignableTo) (by kernel_rfl) (by kernel_rfl) fun args ha=>a7M hT hP (a8d hT hP) args
 ·obtain rfl:=Option.some.inj (Tryz.func260.symm.trans hfn);exact Y7 (x:=ReflectliteType.method fun t=>do Rtype.noPackHeld "Comparable" t;pure (.bool (<-typeInfo t).comparable)) (by kernel_rfl) (by kernel_rfl) fun args ha=>b1c b0j args
 ·obtain rfl:=Option.some.inj (Tryz.func261.symm.trans hfn);exact Y7 (x:=ReflectliteType.method ReflectliteType.elem) (by kernel_rfl) (by kernel_rfl) fun args ha=>b1c (c1P hT hP) args
 ·obtain rfl:=Option.some.inj (Tryz.func262.symm.trans hfn);exact Y7 (x:=ReflectliteType.relation "Implements" ReflectliteType.implements_) (by kernel_rfl) (by kernel_rfl) fun args ha=>a7M hT hP (a9C hT hP) args
theorem pqk:∀Z',Le zone Z'->PQK Z' Tryz.prog:=fun Z' h=>by
 have at_:∀f fn,Z'.F f->Tryz.prog.funcs[f]?=some fn->b2n f=true/\b5J f=true/\fs.testBit f=true:=fun f fn hf _=>by
  have h1:=z_f h hf;have h2:=c3y f h1;exact⟨List.all_eq_true.1 codes f (List.mem_range.2 h2),List.all_eq_true.1 c6D f (List.mem_range.2 h2),h1⟩
 refine⟨pok h,fun f fn hf hfn=>?_,fun f fn hf hfn hb=>?_,fun f fn c hf hfn hb=>?_⟩
 ·obtain⟨h1,-,h3⟩:=at_ f fn hf hfn;unfold b2n at h1;rw[h3,hfn] at h1;simp only[Bool.not_true,Bool.false_or,Bool.and_eq_true] at h1;simpa using h1.1
 ·obtain⟨-,h1,h3⟩:=at_ f fn hf hfn;unfold b5J at h1;rw[h3,hfn] at h1;simp only[Bool.not_true,Bool.false_or,hb,Option.isSome_none] at h1;exact c3z h f (by simpa using h1) fn hfn
 ·obtain⟨h1,-,h3⟩:=at_ f fn hf hfn;unfold b2n at h1;rw[h3,hfn] at h1;simp only[Bool.not_true,Bool.false_or,Bool.and_eq_true,hb] at h1;exact(cOK.sound h1.2).mono h
end
section
open Go.RowKit Go.Conc
def Code.behind:Nat->Code->Code
 | 0,c=>c
 | n+1,c=>match c with
  | .seq _ b=>behind n b
  | c=>c
def Code.head:Code->Code
 | .seq a _=>a
 | c=>c
noncomputable def H8(n:Nat):Code:=Code.behind n (Tryz.f14.body.getD .skip)
noncomputable def c2O:Code:=match Code.head (H8 8) with|.seq _ (.block _ c)=>c|c=>c
noncomputable def Z7:Code:=match c2O with|.loop c=>c|c=>c
noncomputable def a8V:Array Oper:=match Code.head (H8 9) with|.region _ ops _=>ops|_=>#[]
noncomputable def a5I:Code:=match Z7 with|.seq _ (.seq _ (.seq (.block _ c) _))=>c|c=>c
theorem c4H:H8 9=.seq (.region 24 a8V false) (H8 10):=by kernel_rfl
theorem b2Z:a8V=#[{dst:=some 78,op:=.call {callee:=.value (.func 63),args:=#[.tmp 13],argTypes:=#[149]},type:=0,pos:= "keydir.go:126",after:=#[],guard:=none}]:=by kernel_rfl
theorem round_eq:Z7=.seq (.region 19 #[{dst:=some 73,op:=.binOp .lss 3 (.tmp 72) (.tmp 71) 3,type:=0,pos:= "keydir.go:117",after:=#[],guard:=none}] false)
 (.seq (.cond (.tmp 73) .skip (.exit 2)) (.seq (.block 3 a5I) (.region 23 #[{dst:=some 77,op:=.binOp .add 3 (.tmp 72) (.const (.int .i64 1)) 3,type:=3,pos:= "keydir.go:117",after:=#[],guard:=none},
   {dst:=some 72,op:=.move (.tmp 77),type:=3,pos:= "keydir.go:117",after:=#[{on:=0,ground:=.data}],guard:=none}] false))):=by kernel_rfl
theorem c2P:a5I=.seq (.region 20 #[{dst:=some 74,op:=.move (.tmp 72),type:=3,pos:= "keydir.go:117",after:=#[],guard:=none},{dst:=some 14,op:=.alloc 3,type:=0,pos:= "keydir.go:117",after:=#[],guard:=none},
 {dst:=none,op:=.store 3 (.tmp 14) (.tmp 74),type:=0,pos:= "keydir.go:117",after:=#[{on:=1,ground:=.data},{on:=0,ground:=.data},{on:=0,ground:=.phase},{on:=1,ground:=.phase}],guard:=none}] false)
 (.seq (.region 21 #[{dst:=some 75,op:=.call {callee:=.value (.func 58),args:=#[.tmp 13,.const (.int .i64 1)],argTypes:=#[149,3]},type:=0,pos:= "keydir.go:118",after:=#[],guard:=none}] false)
   (.region 22 #[{dst:=some 76,op:=.makeFunc (.func 59) #[] #[.tmp 13,.tmp 14,.tmp 6,.tmp 4,.tmp 11,.tmp 12],type:=1,pos:= "keydir.go:119",after:=#[],guard:=none},
     {dst:=none,op:=.go {callee:=.value (.tmp 76),args:=#[],argTypes:=#[]},type:=0,pos:= "keydir.go:119",after:=#[{on:=0,ground:=.data}],guard:=none}] false)):=by kernel_rfl
end
section
open Go.RowKit Go.Lib Go.Maps
section pure
variable{α β:Type}[DecidableEq α]
def D9(l:List (α×β))(x:α):Option β:=(l.find? fun p=>decide (p.1=x)).map (·.2)
def a05(l:List (α×β))(x:α)(y:β):List (α×β):=if x∈l.map (·.1) then l.map fun p=>if p.1=x then(x,y) else p else l++[(x,y)]
def a3p(l:List (α×β))(x:α):List (α×β):=l.filter fun p=>decide (p.1≠x)
theorem a8O{l:List (α×β)}{x:α}(h:∀p∈l,p.1≠x):D9 l x=none:=by
 unfold D9;rw[List.find?_eq_none.2 (fun p hp=>by simpa using h p hp)];rfl
theorem a8P{l:List (α×β)}{j:Nat}{p:α×β}(hn:(l.map (·.1)).Nodup)(hj:l[j]?=some p):D9 l p.1=some p.2:=by
 induction l generalizing j with
 | nil=>simp at hj
 | cons q l ih=>
  rw[List.map_cons,List.nodup_cons] at hn
  cases j with
  | zero=>simp at hj;subst hj;simp[D9]
  | succ j=>
   simp at hj;have hm:p∈l:=List.mem_of_getElem? hj;have hne:¬q.1=p.1:=fun e=>hn.1 (e▸List.mem_map_of_mem hm);have:=ih hn.2 hj;unfold D9 at *;rw[List.find?_cons_of_neg (by simpa using hne)];exact this
theorem a0y{l:List (α×β)}{x:α}{y:β}(h:D9 l x=some y):(x,y)∈l:=by
 unfold D9 at h;obtain⟨p,hp,rfl⟩:=Option.map_eq_some_iff.1 h;have h1:=List.find?_some hp;have h2:=List.mem_of_find?_eq_some hp;simp at h1;rw[<-h1];exact h2
theorem b7z(l:List (α×β))(x:α)(y:β):(a05 l x y).map (·.1)=if x∈l.map (·.1) then l.map (·.1) else l.map (·.1)++[x]:=by
 unfold a05;split
 ·rw[List.map_map];apply List.map_congr_left;intro p _;simp only[Function.comp];split
  ·rename_i h;exact h.symm
  ·rfl
 ·simp
theorem a5e{l:List (α×β)}(h:(l.map (·.1)).Nodup)(x:α)(y:β):((a05 l x y).map (·.1)).Nodup:=by
 rw[b7z];split
 ·exact h
 ·rename_i hx;rw[List.nodup_append];exact⟨h,by simp,fun a ha b hb=>by simp at hb;subst hb;exact fun e=>hx (e▸ha)⟩
theorem b4v{l:List (α×β)}(h:(l.map (·.1)).Nodup)(x:α):((a3p l x).map (·.1)).Nodup:=
 h.sublist (List.filter_sublist.map _)
theorem a5E{l:List (α×β)}{x:α}{y:β}{p:α×β}(h:p∈a05 l x y):p=(x,y)\/p∈l:=by
 unfold a05 at h;split at h
 ·obtain⟨q,hq,rfl⟩:=List.mem_map.1 h;split
  ·exact .inl rfl
  ·exact .inr hq
 ·rcases List.mem_append.1 h with h|h
  ·exact .inr h
  ·exact .inl (by simpa using h)
theorem b96{l:List (α×β)}{x:α}{p:α×β}(h:p∈a3p l x):p∈l:=(List.mem_filter.1 h).1
end pure
theorem a1p{γ δ:Type}(f:γ->δ)(l:List γ)(j:Nat):(l.eraseIdx j).map f=(l.map f).eraseIdx j:=by
 induction l generalizing j with
 | nil=>rfl
 | cons x l ih=>cases j with
  | zero=>rfl
  | succ j=>simp[ih]
section heap
variable{α β:Type}{P:Program}{k:TypeId}{kf:α->Value}{vf:β->Value}{w:World}{r:Nat}{l:List (α×β)}
def MapOf(P:Program)(k:TypeId)(kf:α->Value)(vf:β->Value)(w:World)(r:Nat)(l:List (α×β)):Prop:=
 ∃es clock,w.heap[r]?=some (.map es clock)/\es.toList.map (fun e=>(e.key,e.val))=l.map (fun p=>(kf p.1,vf p.2))/\(∀e∈es.toList,e.born<clock)/\(es.toList.map (·.born)).Nodup/\
  (∀p∈l,∃t,keyOf P k (kf p.1)=some t)/\(l.map (·.1)).Nodup
theorem MapOf.nodup(h:MapOf P k kf vf w r l):(l.map (·.1)).Nodup:=h.choose_spec.choose_spec.2.2.2.2.2
theorem MapOf.lt(h:MapOf P k kf vf w r l):r<w.heap.size:=by
 obtain⟨es,clock,hb,_⟩:=h;rcases Nat.lt_or_ge r w.heap.size with h|h
 ·exact h
 ·rw[Array.getElem?_eq_none h] at hb;cases hb
theorem MapOf.block{w':World}(h:MapOf P k kf vf w r l)(hb:w'.heap[r]?=w.heap[r]?):MapOf P k kf vf w' r l:=by
 obtain⟨es,clock,h1,h2⟩:=h;exact⟨es,clock,hb.trans h1,h2⟩
theorem MapOf.off{w':World}{g:Nat}(h:MapOf P k kf vf w r l)(hO:Off g w w')(hg:r≠g):MapOf P k kf vf w' r l:=h.block (hO.block r hg)
theorem MapOf.ext{w':World}(h:MapOf P k kf vf w r l)(hE:Ext w w'):MapOf P k kf vf w' r l:=h.block (hE.block r h.lt)
theorem MapOf.made(w:World):MapOf (α:=α) (β:=β) P k kf vf (w.alloc (.map #[] 0)) w.heap.size []:=
 ⟨#[],0,heap_alloc_new w _,rfl,by simp,by simp,by simp,by simp⟩
theorem b4w{es:Array MapEntry}(h2:es.toList.map (fun e=>(e.key,e.val))=l.map (fun p=>(kf p.1,vf p.2))){j:Nat}{e:MapEntry}(hj:es.toList[j]?=some e):∃p,l[j]?=some p/\e.key=kf p.1/\e.val=vf p.2:=by
 have h3:(es.toList.map (fun e=>(e.key,e.val)))[j]?=some (e.key,e.val):=by rw[List.getElem?_map,hj];rfl
 rw[h2,List.getElem?_map] at h3;obtain⟨p,hp,he⟩:=Option.map_eq_some_iff.1 h3;injection he with ha hb;exact⟨p,hp,ha.symm,hb.symm⟩
theorem b97{es:Array MapEntry}(h2:es.toList.map (fun e=>(e.key,e.val))=l.map (fun p=>(kf p.1,vf p.2))){j:Nat}{p:α×β}(hj:l[j]?=some p):∃e,es.toList[j]?=some e/\e.key=kf p.1/\e.val=vf p.2:=by
 have h3:(l.map (fun p=>(kf p.1,vf p.2)))[j]?=some (kf p.1,vf p.2):=by rw[List.getElem?_map,hj];rfl
 rw[<-h2,List.getElem?_map] at h3;obtain⟨e,he,hp⟩:=Option.map_eq_some_iff.1 h3;injection hp with ha hb;exact⟨e,he,ha,hb⟩
theorem b7A{es:Array MapEntry}(h2:es.toList.map (fun e=>(e.key,e.val))=l.map (fun p=>(kf p.1,vf p.2)))(h5:∀p∈l,∃t,keyOf P k (kf p.1)=some t):∀e∈es.toList,∃t,keyOf P k e.key=some t:=by
 intro e he;obtain⟨j,hj⟩:=List.mem_iff_getElem?.1 he;obtain⟨p,hp,hk,_⟩:=b4w h2 hj;rw[hk];exact h5 p (List.mem_of_getElem? hp)
theorem MapOf.find(h:MapOf P k kf vf w r l)(K:Keyed P k)(hinj:∀x y,kf x=kf y->x=y){x:α}{t:Lit}(hx:keyOf P k (kf x)=some t){es:Array MapEntry}{clock:Nat}(hb:w.heap[r]?=some (.map es clock)):
 ((Instr.findKey k (kf x) es.toList).run P w=.ok none w/\(∀p∈l,p.1≠x))\/∃(j:Nat)(e:MapEntry)(y:β),(Instr.findKey k (kf x) es.toList).run P w=.ok (some (j,vf y)) w/\es.toList[j]?=some e/\e.key=kf x/\e.val=vf y/\l[j]?=some (x,y):=by
 obtain⟨es',clock',hb',h2,h3,h4,h5,h6⟩:=h;rw[hb] at hb';injection hb' with hb';injection hb' with e1 e2;subst e1;subst e2;rcases K.find w hx es.toList (b7A h2 h5) with⟨h,hne⟩|⟨j,e,h,hj,he⟩
 ·refine .inl ⟨h,fun p hp e=>?_⟩;obtain⟨j,hj⟩:=List.mem_iff_getElem?.1 hp;obtain⟨e0,he0,hk,_⟩:=b97 h2 hj;exact hne e0 (List.mem_of_getElem? he0) (by rw[hk,e])
 ·obtain⟨p,hp,hk,hv⟩:=b4w h2 hj;have hpx:p.1=x:=hinj _ _ (hk.symm.trans he);subst hpx;exact .inr ⟨j,e,p.2,by rw[h,hv],hj,he,hv,hp⟩
theorem MapOf.look[DecidableEq α](h:MapOf P k kf vf w r l)(K:Keyed P k)(hinj:∀x y,kf x=kf y->x=y){t e:TypeId}(ht:P.underlying t=some (.map k e)){z:Value}(hz:(zeroValue e).run P w=.ok z w){x:α}{lt:Lit}(hx:keyOf P k (kf x)=some lt):
 (Instr.lookup t (.map (some r)) (kf x) false).run P w=.ok (((D9 l x).map vf).getD z) w:=by
 have h0:=h;obtain⟨es,clock,hb,h2,h3,h4,h5,h6⟩:=h0;rcases h.find K hinj hx hb with⟨hf,hne⟩|⟨j,e0,y,hf,hj,he,hv,hp⟩
 ·rw[a8O hne];simp[Instr.lookup,run_underlying ht,MapKept.run_getObj_map hb,K.check w es.isEmpty hx,hf,hz]
 ·have:=a8P h6 hp;rw[this];simp[Instr.lookup,run_underlying ht,MapKept.run_getObj_map hb,K.check w es.isEmpty hx,hf]
theorem MapOf.lookOk[DecidableEq α](h:MapOf P k kf vf w r l)(K:Keyed P k)(hinj:∀x y,kf x=kf y->x=y){t e:TypeId}(ht:P.underlying t=some (.map k e)){z:Value}(hz:(zeroValue e).run P w=.ok z w){x:α}{lt:Lit}(hx:keyOf P k (kf x)=some lt):
 (Instr.lookup t (.map (some r)) (kf x) true).run P w=.ok (.tuple #[((D9 l x).map vf).getD z,.bool (D9 l x).isSome]) w:=by
 have h0:=h;obtain⟨es,clock,hb,h2,h3,h4,h5,h6⟩:=h0;rcases h.find K hinj hx hb with⟨hf,hne⟩|⟨j,e0,y,hf,hj,he,hv,hp⟩
 ·rw[a8O hne];simp[Instr.lookup,run_underlying ht,MapKept.run_getObj_map hb,K.check w es.isEmpty hx,hf,hz]
 ·have:=a8P h6 hp;rw[this];simp[Instr.lookup,run_underlying ht,MapKept.run_getObj_map hb,K.check w es.isEmpty hx,hf]
theorem a8k(w:World)(r:Nat)(o:Obj):Off r w {w with heap:=w.heap.setIfInBounds r o}:=
 ⟨rfl,rfl,rfl,by simp,fun j hj=>by simp[Array.getElem?_setIfInBounds,Ne.symm hj]⟩
theorem a5F{w:World}{r:Nat}(h:r<w.heap.size)(o:Obj):({w with heap:=w.heap.setIfInBounds r o}:World).heap[r]?=some o:=by
 simp[Array.getElem?_setIfInBounds,h]
theorem b7B{γ δ:Type}[DecidableEq γ]{l:List (γ×δ)}(hn:(l.map (·.1)).Nodup){i j:Nat}{p q:γ×δ}(hi:l[i]?=some p)(hj:l[j]?=some q)(h:p.1=q.1):i=j:=by
 have hi':(l.map (·.1))[i]?=some p.1:=by rw[List.getElem?_map,hi];rfl
 have hj':(l.map (·.1))[j]?=some p.1:=by rw[List.getElem?_map,hj,h];rfl
 have h1:=(List.getElem?_eq_some_iff.1 hi').1;exact(List.getElem?_inj h1 hn).1 (hi'.trans hj'.symm)
theorem MapOf.store[DecidableEq α](h:MapOf P k kf vf w r l)(K:Keyed P k)(hinj:∀x y,kf x=kf y->x=y){t e:TypeId}(ht:P.underlying t=some (.map k e)){x:α}{lt:Lit}(hx:keyOf P k (kf x)=some lt)(y:β):
 ∃w',(Instr.mapUpdate t (.map (some r)) (kf x) (vf y)).run P w=.ok () w'/\MapOf P k kf vf w' r (a05 l x y)/\Off r w w':=by
 have h0:=h;have hlt:=h.lt;obtain⟨es,clock,hb,h2,h3,h4,h5,h6⟩:=h0;have hkeys:∀p∈a05 l x y,∃t,keyOf P k (kf p.1)=some t:=by
  intro p hp;rcases a5E hp with rfl|hp
  ·exact⟨lt,hx⟩
  ·exact h5 p hp
 rcases h.find K hinj hx hb with⟨hf,hne⟩|⟨j,e0,y0,hf,hj,he,hv,hp⟩
 ·refine⟨_,by simp[Instr.mapUpdate,run_underlying ht,MapKept.run_getObj_map hb,K.check w false hx,hf,setObj,Sem.run,hb];rfl,?_,a8k w r _⟩;have hmem:x∉l.map (·.1):=by
   intro hm;obtain⟨p,hp,e⟩:=List.mem_map.1 hm;exact hne p hp e
  refine⟨_,_,a5F hlt _,?_,?_,?_,hkeys,a5e h6 x y⟩
  ·unfold a05;rw[if_neg hmem];simp[h2]
  ·intro e he;rw[Array.toList_push,List.mem_append] at he;rcases he with he|he
   ·have:=h3 e he;omega
   ·simp at he;subst he;simp
  ·rw[Array.toList_push,List.map_append,List.nodup_append];refine⟨h4,by simp,fun a ha b hb=>?_⟩;obtain⟨e,he,rfl⟩:=List.mem_map.1 ha;simp at hb;subst hb;exact Nat.ne_of_lt (h3 e he)
 ·have hje:es[j]?=some e0:=by simpa using hj
  have hstay:(Instr.keyThatStays (((es[j]?).map (·.key)).getD (kf x)) (kf x)).run P w=.ok (kf x) w:=by
   rw[hje];simp only[Option.map_some,Option.getD_some];rw[he];exact K.stays w hx
  refine⟨{w with heap:=w.heap.setIfInBounds r (.map (es.modify j fun e=>{e with key:=kf x,val:=vf y}) clock)},?_,?_,a8k w r _⟩
  ·simp only[Instr.mapUpdate,Sem.run_bind,run_underlying ht,Result.andThen_ok,MapKept.run_getObj_map hb,K.check w false hx,hf,hstay];simp[setObj,Sem.run,hb]
  ·have hmem:x∈l.map (·.1):=List.mem_map.2 ⟨(x,y0),List.mem_of_getElem? hp,rfl⟩;have hmod:(es.modify j fun e=>{e with key:=kf x,val:=vf y}).toList=es.toList.modify j fun e=>{e with key:=kf x,val:=vf y}:=Array.toList_modify ..;refine⟨_,clock,a5F hlt _,?_,?_,?_,hkeys,a5e h6 x y⟩
   ·unfold a05;rw[if_pos hmem,hmod];apply List.ext_getElem?;intro i;rw[List.getElem?_map,List.getElem?_map,List.getElem?_modify,List.getElem?_map];by_cases hij:j=i
    ·subst hij;rw[hj,hp];simp
    ·simp only[hij,if_false];have hz:(es.toList.map (fun e=>(e.key,e.val)))[i]?=(l.map (fun p=>(kf p.1,vf p.2)))[i]?:=by rw[h2]
     rw[List.getElem?_map,List.getElem?_map] at hz
     cases hl:l[i]? with
     | none=>rw[hl] at hz;simpa using hz
     | some q=>
      have hq:¬q.1=x:=fun e=>hij (b7B h6 hp hl (by simpa using e.symm));rw[hl] at hz;simpa [hq] using hz
   ·intro e he';rw[hmod] at he';obtain⟨i,hi⟩:=List.mem_iff_getElem?.1 he';rw[List.getElem?_modify] at hi;obtain⟨e1,he1,rfl⟩:=Option.map_eq_some_iff.1 hi;have:=h3 e1 (List.mem_of_getElem? he1);split<;>exact this
   ·rw[hmod];have:(es.toList.modify j fun e=>{e with key:=kf x,val:=vf y}).map (·.born)=es.toList.map (·.born):=by
     apply List.ext_getElem?;intro i;rw[List.getElem?_map,List.getElem?_modify,List.getElem?_map]
     cases es.toList[i]? with
     | none=>rfl
     | some e=>simp;split<;>rfl
    rw[this];exact h4
theorem MapOf.drop[DecidableEq α](h:MapOf P k kf vf w r l)(K:Keyed P k)(hinj:∀x y,kf x=kf y->x=y){t e:TypeId}(ht:P.underlying t=some (.map k e)){x:α}{lt:Lit}(hx:keyOf P k (kf x)=some lt)(ty:TypeId):
 ∃w',(Builtin.delete_ #[t,k] ty #[.map (some r),kf x]).run P w=.ok (.tuple #[]) w'/\MapOf P k kf vf w' r (a3p l x)/\Off r w w':=by
 have h0:=h;have hlt:=h.lt;obtain⟨es,clock,hb,h2,h3,h4,h5,h6⟩:=h0;rcases h.find K hinj hx hb with⟨hf,hne⟩|⟨j,e0,y0,hf,hj,he,hv,hp⟩
 ·refine⟨_,by simp[Builtin.delete_,run_underlying ht,MapKept.run_getObj_map hb,K.check w es.isEmpty hx,hf,setObj,Sem.run,hb];rfl,?_,a8k w r _⟩;have hd:a3p l x=l:=List.filter_eq_self.2 (fun p hp=>by simpa using hne p hp);rw[hd];exact⟨es,clock,a5F hlt _,h2,h3,h4,h5,h6⟩
 ·refine⟨_,by simp[Builtin.delete_,run_underlying ht,MapKept.run_getObj_map hb,K.check w es.isEmpty hx,hf,setObj,Sem.run,hb];rfl,?_,a8k w r _⟩;have hjl:j<es.size:=by
   have:=(List.getElem?_eq_some_iff.1 hj).1;simpa using this
  have her:(es.eraseIdxIfInBounds j).toList=es.toList.eraseIdx j:=by
   rw[Array.eraseIdxIfInBounds,dif_pos hjl,Array.toList_eraseIdx]
  have hd:a3p l x=l.eraseIdx j:=by
   unfold a3p;apply List.ext_getElem?;intro i;clear hf her;have hgen:∀(l:List (α×β))(j:Nat),(l.map (·.1)).Nodup->l[j]?=some (x,y0)->l.filter (fun p=>decide (p.1≠x))=l.eraseIdx j:=by
    intro l
    induction l with
    | nil=>intro j _ h;simp at h
    | cons q l ih=>
     intro j hn hj;rw[List.map_cons,List.nodup_cons] at hn
     cases j with
     | zero=>
      simp at hj;subst hj;have:l.filter (fun p=>decide (p.1≠x))=l:=List.filter_eq_self.2 (fun p hp=>by
       have:p.1≠x:=fun e=>hn.1 (by rw[<-show p.1=x from e];exact List.mem_map.2 ⟨p,hp,rfl⟩);simpa using this)
      simp only[List.eraseIdx_zero,List.tail_cons]
      rw[List.filter_cons_of_neg (by simp)];exact this
     | succ j=>
      simp at hj;have hq:q.1≠x:=fun e=>hn.1 (by rw[e];exact List.mem_map.2 ⟨(x,y0),List.mem_of_getElem? hj,rfl⟩);rw[List.filter_cons_of_pos (by simpa using hq),ih j hn.2 hj];rfl
   rw[hgen l j h6 hp]
  rw[hd];refine⟨_,clock,a5F hlt _,?_,?_,?_,?_,?_⟩
  ·rw[her,a1p,h2,a1p]
  ·intro e he';rw[her] at he';exact h3 e (List.mem_of_mem_eraseIdx he')
  ·rw[her,a1p];exact h4.sublist (List.eraseIdx_sublist ..)
  ·intro p hp;exact h5 p (List.mem_of_mem_eraseIdx hp)
  ·rw[a1p];exact h6.sublist (List.eraseIdx_sublist ..)
theorem MapOf.len(h:MapOf P k kf vf w r l){t e:TypeId}(ht:P.underlying t=some (.map k e))(ty:TypeId):(Builtin.len_ #[t] ty #[.map (some r)]).run P w=.ok (.int .i64 l.length) w:=by
 obtain⟨es,clock,hb,h2,_⟩:=h;have:es.size=l.length:=by
  have:=congrArg List.length h2;simpa using this
 simp[Builtin.len_,run_underlying ht,MapKept.run_getObj_map hb,this,goInt]
end heap
end
namespace Dk
abbrev Nm:=List UInt8
structure Nd where
 data:List UInt8
 safe:Nat
abbrev Mv:=Nm×Option Nat
structure D where
 now:List (Nm×Nat)
 safe:List (Nm×Nat)
 moves:List (List Mv)
 room:Int
 wait:Nat
 bad:Nat
 ids:List Nat
 node:Nat->Nd
inductive Er where
 | ok
 | num (n:Int)
 | file (n:Int) (name:Nm)
 deriving DecidableEq
def Er.code:Er->Int
 | .ok=>0
 | .num n=>n
 | .file n _=>n
def Er.name:Er->Nm
 | .file _ s=>s
 | _=>[]
def D5(m:List (Nm×Nat))(l:List Mv):List (Nm×Nat):=l.foldl (fun m x=>match x.2 with|none=>a3p m x.1|some f=>a05 m x.1 f) m
theorem a4J(m:List (Nm×Nat))(l:List Mv)(x:Mv):D5 m (l++[x])=match x.2 with|none=>a3p (D5 m l) x.1|some f=>a05 (D5 m l) x.1 f:=by
 simp[D5]
def D.fails(d:D):Bool×D:=if 0<d.wait then(false,{d with wait:=d.wait - 1}) else if 0<d.bad then(true,{d with bad:=d.bad - 1}) else(false,d)
def D.find(d:D)(name:Nm):Option Nat×Er×D:=
 if d.fails.1=true then(none,.file 9 name,d.fails.2) else match D9 d.now name with
  | none=>(none,.file 11 name,d.fails.2)
  | some x=>(some x,.ok,d.fails.2)
def D.mv(d:D)(l:List Mv):D:={d with now:=D5 d.now l,moves:=d.moves++[l]}
def upd(f:Nat->Nd)(x:Nat)(y:Nd):Nat->Nd:=fun i=>if i=x then y else f i
def D.setNode(d:D)(x:Nat)(y:Nd):D:={d with node:=upd d.node x y}
def D.create(d:D)(name:Nm)(x:Nat):Er×D:=
 if d.fails.1=true then(.file 9 name,d.fails.2) else if (D9 d.fails.2.now name).isSome=true then(.file 12 name,d.fails.2)
 else(.ok,({d.fails.2 with ids:=d.fails.2.ids++[x],node:=upd d.fails.2.node x ⟨[],0⟩}:D).mv [(name,some x)])
def D.used(d:D):Nat:=(d.now.map fun p=>(d.node p.2).data.length).sum
def D.append(d:D)(name:Nm)(b:List UInt8):Er×D:=
 match d.find name with
 | (none,e,d)=>(e,d)
 | (some x,_,d)=>if d.room - d.used<b.length then(.file 10 name,d) else(.ok,d.setNode x {d.node x with data:=(d.node x).data++b})
def D.size(d:D)(name:Nm):Int×Er×D:=
 match d.find name with
 | (none,e,d)=>(0,e,d)
 | (some x,_,d)=>((d.node x).data.length,.ok,d)
def part(l:List UInt8)(at_ n:Int):List UInt8:=(l.drop (min at_.toNat l.length)).take (min n.toNat (l.length - min at_.toNat l.length))
def D.readAt(d:D)(name:Nm)(at_ n:Int):List UInt8×Er×D:=
 match d.find name with
 | (none,e,d)=>([],e,d)
 | (some x,_,d)=>(part (d.node x).data at_ n,.ok,d)
def D.sync(d:D)(name:Nm):Er×D:=
 match d.find name with
 | (none,e,d)=>(e,d)
 | (some x,_,d)=>(.ok,d.setNode x {d.node x with safe:=(d.node x).data.length})
def D.rename(d:D)(src dst:Nm):Er×D:=
 match d.find src with
 | (none,e,d)=>(e,d)
 | (some x,_,d)=>(.ok,if src=dst then d else d.mv [(dst,some x),(src,none)])
def D.remove(d:D)(name:Nm):Er×D:=
 match d.find name with
 | (none,e,d)=>(e,d)
 | (some _,_,d)=>(.ok,d.mv [(name,none)])
def D.syncDir(d:D):Er×D:=
 if d.fails.1=true then(.file 9 [],d.fails.2) else(.ok,{d.fails.2 with safe:=d.moves.foldl D5 d.safe,moves:=[]})
structure D.Wf(d:D):Prop where
 now:∀p∈d.now,p.2∈d.ids
 safe:∀p∈d.safe,p.2∈d.ids
 moves:∀l∈d.moves,∀x∈l,∀f,x.2=some f->f∈d.ids
 part:∀x∈d.ids,(d.node x).safe<=(d.node x).data.length
 ids:d.ids.Nodup
theorem a03{m:List (Nm×Nat)}{l:List Mv}{p:Nm×Nat}(h:p∈D5 m l):p∈m\/∃x∈l,x.2=some p.2:=by
 induction l generalizing m with
 | nil=>exact .inl h
 | cons x l ih=>
  rcases ih (m:=match x.2 with|none=>a3p m x.1|some f=>a05 m x.1 f) h with h|⟨y,hy,e⟩
  ·cases hx:x.2 with
   | none=>rw[hx] at h;exact .inl (b96 h)
   | some f=>
    rw[hx] at h;rcases a5E h with rfl|h
    ·exact .inr ⟨x,by simp,hx⟩
    ·exact .inl h
  ·exact .inr ⟨y,by simp[hy],e⟩
theorem D.fails_now(d:D):d.fails.2.now=d.now/\d.fails.2.safe=d.safe/\d.fails.2.moves=d.moves/\d.fails.2.room=d.room/\d.fails.2.ids=d.ids/\d.fails.2.node=d.node:=by
 unfold D.fails;split
 ·exact⟨rfl,rfl,rfl,rfl,rfl,rfl⟩
 ·split<;>exact⟨rfl,rfl,rfl,rfl,rfl,rfl⟩
theorem D.setNode_wf{d:D}(h:d.Wf){x:Nat}{y:Nd}(hy:y.safe<=y.data.length):(d.setNode x y).Wf:=by
 refine⟨h.now,h.safe,h.moves,fun z hz=>?_,h.ids⟩;show((upd d.node x y) z).safe<=((upd d.node x y) z).data.length;unfold upd;split
 ·exact hy
 ·exact h.part z hz
end Dk
end Go.Proofs.YtgpbhjjajpbeeaaGreatDoor
