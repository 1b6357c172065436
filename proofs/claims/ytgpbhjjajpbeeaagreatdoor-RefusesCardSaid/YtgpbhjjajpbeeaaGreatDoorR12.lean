/- A part of what the last file proves. -/
import Derived.Test.YtgpbhjjajpbeeaaGreatDoorR11
import Derived.Deep.OwnRows
set_option linter.all false
set_option maxRecDepth 100000
set_option maxHeartbeats 1600000
namespace Go.Zn
section
open Go.Extern.Rtype
variable{Z:Zone}{P:Program}
theorem a4x(a:String)(t:TypeId):Sf Z P (fun _=>True) (noPack a t):=by
 unfold noPack;refine Sf.bind D9 fun p _=>?_;split
 ·exact H7 _ trivial
 ·exact Sf.pure trivial
theorem a9O(a:String)(t:TypeId):Sf Z P (fun _=>True) (noPackHeld a t):=by
 unfold noPackHeld;refine Sf.bind D9 fun p _=>Sf.bind D9 fun p _=>?_;split
 ·exact H7 _ trivial
 ·exact Sf.pure trivial
theorem a88(a:String)(t:TypeId):Sf Z P (fun _=>True) (noPackNamed a t):=by
 unfold noPackNamed;refine Sf.bind D9 fun p _=>Sf.bind D9 fun p _=>?_;split
 ·exact H7 _ trivial
 ·exact Sf.pure trivial
theorem Z9(a:String)(t:TypeId):Sf Z P (fun _=>True) (noPackMethods a t):=by
 unfold noPackMethods;refine Sf.bind D9 fun p _=>Sf.bind D9 fun p _=>?_;split
 ·exact H7 _ trivial
 ·exact Sf.pure trivial
theorem a9a(t:TypeId):Sf Z P (fun _=>True) (spelt t):=Sf.bind (a88 _ _) fun _ _=>a3r t
theorem a2Y(t:TypeId):Sf Z P (fun _=>True) (under t):=by
 unfold under;refine Sf.bind (I8 t) fun i _=>?_;split
 ·exact Sf.bind (I8 _) fun _ _=>Sf.pure trivial
 ·exact Sf.pure trivial
theorem a7U(t:TypeId):Sf Z P (fun _=>True) (kind t):=by
 unfold kind;refine Sf.bind (a2Y t) fun x _=>?_;dsimp only;split<;>first|exact Sf.pure trivial|exact l7 _
theorem a9b(t:TypeId):Sf Z P (fun _=>True) (hasName t):=by
 unfold hasName;refine Sf.bind (I8 t) fun x _=>?_;split<;>exact Sf.pure trivial
theorem b3x(t:TypeId):Sf Z P (fun _=>True) (elem? t):=by
 unfold elem?;refine Sf.bind (a2Y t) fun x _=>?_;split<;>exact Sf.pure trivial
theorem a1s(t v:TypeId):Sf Z P (fun _=>True) (implements t v):=by
 unfold implements;refine Sf.bind (Z9 _ _) fun _ _=>Sf.bind (Z9 _ _) fun _ _=>Sf.bind (a2Y _) fun _ _=>Sf.bind (a2Y _) fun _ _=>?_;split
 ·exact Sf.pure trivial
 ·exact Sf.bind (I8 _) fun _ _=>Sf.pure trivial
 ·exact Sf.pure trivial
theorem a7s(t v:TypeId):Sf Z P (fun _=>True) (directlyAssignable t v):=by
 unfold directlyAssignable;dsimp only;split
 ·exact Sf.pure trivial
 ·refine Sf.bind (R:=fun _=>True) (a9b t) fun b _=>?_;have rest:Sf Z P (fun _:Bool=>True) (do let __x <-under t;let __x_1 <-under v;match __x.snd.desc,__x_1.snd.desc with|.chan _ e,.chan .both e'=>pure (__x.fst==__x_1.fst||e==e')|_,_=>pure (__x.fst==__x_1.fst)):=by
   refine Sf.bind (a2Y _) fun _ _=>Sf.bind (a2Y _) fun _ _=>?_;split<;>exact Sf.pure trivial
  refine Sf.bind (R:=fun _=>True) (a9b v) fun b' _=>?_;split
  ·exact Sf.pure trivial
  ·exact rest
theorem a4i(h:Value):Sf Z P (fun _=>True) (ofHandle h):=by
 unfold ofHandle;refine Sf.bind D9 fun p _=>?_;split
 ·exact Sf.pure trivial
 ·exact l7 _
theorem b0L(hP:POK Z P)(t:TypeId):Sf Z P (VP Z) (handle t):=by
 unfold handle;refine Sf.bind D9 ?_;rintro p rfl;exact Sf.pure (.ptr _ hP.handle)
theorem a9c(n:String):Sf Z P (fun _=>True) (cutType n):=by
 unfold cutType;refine Sf.bind D9 fun p _=>?_;split
 ·exact Sf.pure trivial
 ·exact l7 _
def c5k(Z:Zone):Prop:=∀t,Z.T t
section
variable(hT:c5k Z)(hP:POK Z P)
include hT hP
open Go.Extern
theorem a6L(t:TypeId):Sf Z P (VP Z) (ReflectliteType.toType t):=by
 unfold ReflectliteType.toType;exact Sf.bind (a9c _) fun u _=>Sf.bind (b0L hP t) fun h hh=>Sf.pure (.iface _ _ (hT _) (.agg _ (AP.one hh)))
theorem b70{args:Array Value}(_:AP Z args):Sf Z P (VP Z) (ReflectliteType.typeOf args):=by
 obtain⟨l⟩:=args;rcases l with _|⟨x,_|⟨y,l⟩⟩
 ·exact l7 _
 ·cases x<;>first|exact Sf.pure .nilIface|exact a6L hT hP _|exact l7 _
 ·cases x<;>exact l7 _
omit hT hP in
theorem a5e(v:Value):Sf Z P (fun _=>True) (ReflectliteType.ofRtype v):=by
 cases v<;>first|exact l7 _|skip
 rename_i c;obtain⟨l⟩:=c;rcases l with _|⟨x,_|⟨y,l⟩⟩
 ·exact l7 _
 ·exact Sf.bind (a4i _) fun _ _=>Sf.bind (a4x _ _) fun _ _=>Sf.pure trivial
 ·exact l7 _
theorem a09{α:Type}{Q:α->Prop}(s:String):Sf Z P Q (panicString s:Sem α):=by
 unfold panicString
 first
  | exact a0t _
  | (refine Sf.bind D9 fun p _=>?_;exact a0t _)
omit hT hP in
theorem b0M{f:TypeId->Sem Value}(hf:∀t,Sf Z P (VP Z) (f t))(args:Array Value):Sf Z P (VP Z) (ReflectliteType.method f args):=by
 obtain⟨l⟩:=args;rcases l with _|⟨x,_|⟨y,l⟩⟩
 ·exact l7 _
 ·exact Sf.bind (a5e _) fun t _=>hf t
 ·exact l7 _
theorem c0V(t:TypeId):Sf Z P (VP Z) (ReflectliteType.elem t):=by
 unfold ReflectliteType.elem;refine Sf.bind (b3x t) fun e _=>?_;split
 ·exact a6L hT hP _
 ·exact Sf.bind (a9a _) fun _ _=>a09 hT hP _
omit hT hP in
theorem a9P(t:TypeId):Sf Z P (VP Z) (do noPackHeld "Comparable" t;pure (.bool (<-typeInfo t).comparable)):=Sf.bind (a9O _ _) fun _ _=>Sf.bind (I8 _) fun _ _=>Sf.pure (.bool _)
theorem a7t{a:String}{f:TypeId->TypeId->Sem Bool}(hf:∀t u,Sf Z P (fun _=>True) (f t u))(args:Array Value):Sf Z P (VP Z) (ReflectliteType.relation a f args):=by
 obtain⟨l⟩:=args;rcases l with _|⟨x,_|⟨y,_|⟨z,l⟩⟩⟩
 ·exact l7 _
 ·exact l7 _
 ·cases y<;>first
   | exact a09 hT hP _
   | exact Sf.bind (a5e _) fun _ _=>Sf.bind (a5e _) fun _ _=>Sf.bind (hf _ _) fun _ _=>Sf.pure (.bool _)
   | exact l7 _
 ·cases y<;>exact l7 _
theorem a9d(u t:TypeId):Sf Z P (fun _=>True) (ReflectliteType.implements_ u t):=by
 unfold ReflectliteType.implements_;refine Sf.bind (a7U u) fun k _=>?_;have rest:Sf Z P (fun _:Bool=>True) (do noPackMethods "Implements" t;noPack "Implements" u;implements u t):=Sf.bind (Z9 _ _) fun _ _=>Sf.bind (a4x _ _) fun _ _=>a1s _ _;dsimp only;split
 ·exact Sf.bind (R:=fun _=>True) (a09 hT hP _) fun _ _=>rest
 ·exact rest
theorem a7J(u t:TypeId):Sf Z P (fun _=>True) (ReflectliteType.assignableTo u t):=by
 unfold ReflectliteType.assignableTo;have rest:Sf Z P (fun _:Bool=>True) (do pure ((<-directlyAssignable u t)||(<-implements u t))):=by
  refine Sf.bind (a7s u t) fun b _=>?_
  first
   | exact Sf.bind (a1s _ _) fun _ _=>Sf.pure trivial
   | (cases b
      ·exact Sf.bind (a1s _ _) fun _ _=>Sf.pure trivial
      ·exact Sf.pure trivial)
 dsimp only;split
 ·exact Sf.bind (Z9 _ _) fun _ _=>Sf.bind (Z9 _ _) fun _ _=>rest
 ·exact rest
theorem b1X{f:TypeId->Sem Value}(hf:∀t,Sf Z P (VP Z) (f t))(args:Array Value):Sf Z P (VP Z) (ReflectliteType.abiMethod f args):=by
 obtain⟨l⟩:=args;rcases l with _|⟨x,_|⟨y,l⟩⟩
 ·exact l7 _
 ·exact Sf.bind (a4i _) fun t _=>Sf.bind (a4x _ _) fun _ _=>hf t
 ·exact l7 _
theorem c2T(t:TypeId){a:Addr}(h:Z.D a.block)(fl:Nat):Sf Z P (VP Z) (ReflectliteValue.mk t a fl):=by
 unfold ReflectliteValue.mk;exact Sf.bind (b0L hP t) fun v hv=>Sf.bind (a7U t) fun k _=>Sf.pure (.agg _ (fun x hx=>by
  simp at hx;rcases hx with rfl|rfl|rfl
  ·exact hv
  ·exact .ptr a h
  ·exact .int _ _))
omit hT hP in
theorem b3y:VP Z ReflectliteValue.zeroV:=.agg _ fun x hx=>by
 simp at hx;rcases hx with rfl|rfl|rfl
 ·exact .pnil
 ·exact .int _ _
theorem b0N{v:Value}(h:VP Z v):Sf Z P (VP Z) (ReflectliteValue.unpack v):=by
 cases h with
 | nilIface=>exact Sf.pure b3y
 | iface t w ht hw=>exact Sf.bind (a1W t hw) fun a ha=>c2T hT hP t ha 0
 | _=>exact l7 _
theorem a0i{α:Type}{Q:α->Prop}(m:String)(k:Nat):Sf Z P Q (ReflectliteValue.valueError m k:Sem α):=by
 unfold ReflectliteValue.valueError;exact Sf.bind (a9c _) fun t _=>Sf.bind (a0S _) fun e _=>Sf.bind (a1W e (.agg _ fun x hx=>by
  simp at hx;rcases hx with rfl|rfl
  ·exact .string _
  ·exact .int _ _)) fun a _=>a0t _
theorem a7u{v:Value}(h:VP Z v):Sf Z P (fun o=>∀t a fl,o=some (t,a,fl)->Z.D a.block) (ReflectliteValue.partsAny v):=by
 have key:∀(hd:Value)(a:Addr)(f:Nat),Z.D a.block->Sf Z P (fun o=>∀t a fl,o=some (t,a,fl)->Z.D a.block) (do pure (some (<-ofHandle hd,a,f)):Sem (Option (TypeId×Addr×Nat))):=fun hd a f ha=>
  Sf.bind (a4i _) fun t _=>Sf.pure fun t' a' fl' e=>by
   simp only[Option.some.injEq,Prod.mk.injEq] at e;obtain⟨_,rfl,_⟩:=e;exact ha
 cases h<;>first|exact l7 _|skip
 rename_i c hc;obtain⟨l⟩:=c;rcases l with _|⟨x,_|⟨y,_|⟨z,_|⟨u,l⟩⟩⟩⟩
 ·exact l7 _
 ·exact l7 _
 ·exact l7 _
 ·have hy:=hc y (by simp);cases z<;>first|exact l7 _|skip
  rename_i k n;cases k<;>first|exact l7 _|skip
  cases n with
  | ofNat n=>
   cases n with
   | zero=>exact Sf.pure fun _ _ _ h=>by cases h
   | succ n=>
    cases hy with
    | ptr a ha=>exact key x a (n+1) ha
    | _=>exact l7 _
  | negSucc n=>
   cases hy with
   | ptr a ha=>exact key x a _ ha
   | _=>exact l7 _
 ·cases z<;>exact l7 _
theorem a9e{v:Value}(h:VP Z v):Sf Z P (fun o=>∀t a fl,o=some (t,a,fl)->Z.D a.block) (ReflectliteValue.parts v):=by
 unfold ReflectliteValue.parts;refine Sf.bind (a7u hT hP h) fun o ho=>?_;split
 ·exact Sf.bind (a4x _ _) fun _ _=>Sf.pure ho
 ·exact Sf.pure fun _ _ _ h=>by cases h
theorem a5f{zero:Sem Value}{f:TypeId->Addr->Nat->Nat->Sem Value}(hz:Sf Z P (VP Z) zero)(hf:∀t a fl k,Z.D a.block->Sf Z P (VP Z) (f t a fl k)){args:Array Value}(h:AP Z args):Sf Z P (VP Z) (ReflectliteValue.method zero f args):=by
 obtain⟨l⟩:=args;rcases l with _|⟨x,_|⟨y,l⟩⟩
 ·exact l7 _
 ·refine Sf.bind (a9e hT hP (h x (by simp))) fun o ho=>?_
  cases o with
  | none=>exact hz
  | some o=>obtain⟨t,a,fl⟩:=o;exact hf _ _ _ _ (ho _ _ _ rfl)
 ·exact l7 _
theorem a9Q{zero:Sem Value}{f:TypeId->Addr->Nat->Nat->Sem Value}(hz:Sf Z P (VP Z) zero)(hf:∀t a fl k,Z.D a.block->Sf Z P (VP Z) (f t a fl k)){args:Array Value}(h:AP Z args):Sf Z P (VP Z) (ReflectliteValue.methodAny zero f args):=by
 obtain⟨l⟩:=args;rcases l with _|⟨x,_|⟨y,l⟩⟩
 ·exact l7 _
 ·refine Sf.bind (a7u hT hP (h x (by simp))) fun o ho=>?_
  cases o with
  | none=>exact hz
  | some o=>obtain⟨t,a,fl⟩:=o;exact hf _ _ _ _ (ho _ _ _ rfl)
 ·exact l7 _
theorem b71(t:TypeId){a:Addr}(h:Z.D a.block)(fl k:Nat):Sf Z P (VP Z) (ReflectliteValue.isNil t a fl k):=by
 unfold ReflectliteValue.isNil;have rest:Sf Z P (VP Z) (do match <-loadVar t a with|.chan none|.nilFunc|.nilIface|.map none|.pointer none|.slice none _ _=>pure (.bool true)|_=>pure (.bool false)):=by
  refine Sf.bind (a0u t h) fun v _=>?_;split<;>exact Sf.pure (.bool _)
 dsimp only;split
 ·exact Sf.bind (R:=fun _=>True) (a0i hT hP _ _) fun _ _=>rest
 ·exact rest
theorem c0W(t:TypeId){a:Addr}(h:Z.D a.block)(fl k:Nat):Sf Z P (VP Z) (ReflectliteValue.elem t a fl k):=by
 unfold ReflectliteValue.elem;have rest:Sf Z P (VP Z) (do match k,<-loadVar t a,<-elem? t with|20,i,_=>ReflectliteValue.unpack i|22,.pointer none,_=>pure ReflectliteValue.zeroV|22,.pointer (some p),some e=>ReflectliteValue.mk e p ReflectliteValue.flagAddr|_,_,_=>ReflectliteValue.valueError "reflectlite.Value.Elem" k):=by
  refine Sf.bind (a0u t h) fun v hv=>Sf.bind (b3x t) fun e _=>?_;split
  ·exact b0N hT hP hv
  ·exact Sf.pure b3y
  ·cases hv with
   | ptr a h=>exact c2T hT hP _ h _
  ·exact a0i hT hP _ _
 dsimp only;split
 ·exact Sf.bind (R:=fun _=>True) (a0i hT hP _ _) fun _ _=>rest
 ·exact rest
theorem c4f{args:Array Value}(h:AP Z args):Sf Z P (VP Z) (ReflectliteValue.set args):=by
 obtain⟨l⟩:=args;rcases l with _|⟨x,_|⟨y,_|⟨z,l⟩⟩⟩
 ·exact l7 _
 ·exact l7 _
 ·unfold ReflectliteValue.set;dsimp only;refine Sf.bind (a9e hT hP (h x (by simp))) fun o ho=>Sf.bind (a9e hT hP (h y (by simp))) fun o' ho'=>?_
  cases o with
  | none=>exact H7 _ trivial
  | some o=>
   cases o' with
   | none=>exact H7 _ trivial
   | some o'=>
    obtain⟨dst,a,fl⟩:=o;obtain⟨src,b,fl'⟩:=o';have ha:=ho _ _ _ rfl;have hb:=ho' _ _ _ rfl;have store:∀v,VP Z v->Sf Z P (VP Z) (do storeVar dst a v;pure (.tuple #[])):=fun v hv=>Sf.bind (a7i dst ha hv) fun _ _=>Sf.pure (.tuple _ AP.nil);have rest:Sf Z P (VP Z) (do
     let val <-loadVar src b
     if <-directlyAssignable dst src then storeVar dst a val
     else if <-implements dst src then
      if (<-kind src)==20 then
       match val with
       | .nilIface=>unsupported (.noEntry "extern/reflectlite: a nil value of one interface type handed on as a value of another")
       | _=>storeVar dst a val
      else storeVar dst a (.iface src val)
     else panicString ("reflectlite.Set: value of type "++(<-spelt src)++ " is not assignable to type "++(<-spelt dst))
     pure (.tuple #[])):=by
     refine Sf.bind (a0u src hb) fun val hval=>Sf.bind (a7s dst src) fun d _=>?_;split
     ·exact store _ hval
     ·refine Sf.bind (a1s dst src) fun i _=>?_;split
      ·refine Sf.bind (a7U src) fun k _=>?_;split
       ·split
        ·exact Sf.bind (R:=fun _=>True) (H7 _ trivial) fun _ _=>Sf.pure (.tuple _ AP.nil)
        ·exact store _ hval
       ·exact store _ (.iface _ _ (hT _) hval)
      ·exact Sf.bind (a9a _) fun _ _=>Sf.bind (a9a _) fun _ _=>Sf.bind (R:=fun _=>True) (a09 hT hP _) fun _ _=>Sf.pure (.tuple _ AP.nil)
    dsimp only;split
    ·exact Sf.bind (R:=fun _=>True) (H7 _ trivial) fun _ _=>rest
    ·exact rest
 ·exact l7 _
omit hT hP in
theorem c2G{args:Array Value}(h:AP Z args):Sf Z P (VP Z) (AbiNoEscape.same args):=by
 obtain⟨l⟩:=args;rcases l with _|⟨x,_|⟨y,l⟩⟩
 ·exact l7 _
 ·exact Sf.pure (h x (by simp))
 ·exact l7 _
omit hT hP in
theorem a9R{a:Addr}(h:Z.D a.block)(n:Nat):∀acc,Sf Z P (fun _=>True) (Bytes.loadBytes a n acc):=by
 induction n generalizing a with
 | zero=>intro acc;exact Sf.pure trivial
 | succ n ih=>
  intro acc;unfold Bytes.loadBytes;refine Sf.bind (a5P h) fun v _=>?_;split
  ·exact ih (by unfold Addr.add;split<;>exact h) _
  ·exact l7 _
omit hT hP in
theorem a5g{v:Value}(h:VP Z v):Sf Z P (fun _=>True) (Bytes.bytesOf v):=by
 cases h with
 | string s=>exact Sf.pure trivial
 | snil n c=>exact Sf.pure trivial
 | slice a n c ha=>exact a9R ha _ _
 | _=>exact l7 _
omit hT hP in
theorem b72(v:Value):Sf Z P (fun _=>True) (Bytes.asByte v):=by
 unfold Bytes.asByte;split
 ·exact Sf.pure trivial
 ·exact l7 _
omit hT hP in
theorem b1Y{args:Array Value}(h:AP Z args):Sf Z P (VP Z) (BytealgIndexByte.indexByte args):=by
 obtain⟨l⟩:=args;rcases l with _|⟨x,_|⟨y,_|⟨z,l⟩⟩⟩
 ·exact l7 _
 ·exact l7 _
 ·unfold BytealgIndexByte.indexByte;refine Sf.bind (a5g (h x (by simp))) fun b _=>Sf.bind (b72 _) fun c _=>?_;split<;>exact Sf.pure (.int _ _)
 ·exact l7 _
omit hT in
theorem a9S(hG:∀b,b<P.globals.size->Z.D b)(n:String):Sf Z P (fun a=>Z.D a.block) (globalAddr n):=by
 unfold globalAddr;refine Sf.bind D9 ?_;rintro p rfl;split
 ·rename_i g hg;exact Sf.pure (hG _ (Array.findIdx?_eq_some_iff_getElem.1 hg).1)
 ·exact l7 _
omit hT in
theorem c0X(hG:∀b,b<P.globals.size->Z.D b){args:Array Value}(h:AP Z args):Sf Z P (VP Z) (BytealgIndex.index args):=by
 obtain⟨l⟩:=args;rcases l with _|⟨x,_|⟨y,_|⟨z,l⟩⟩⟩
 ·exact l7 _
 ·exact l7 _
 ·unfold BytealgIndex.index BytealgIndex.maxLen;refine Sf.bind (a5g (h x (by simp))) fun b _=>Sf.bind (a5g (h y (by simp))) fun c _=>Sf.bind (R:=fun _=>True) (Sf.bind (a9S hP hG _) fun a ha=>Sf.bind (a5P ha) fun v _=>a1B _) fun n _=>?_;have last:Sf Z P (VP Z) (match (List.range (b.size+1 - c.size)).find? fun i=>b.extract i (i+c.size)==c with|some i=>pure (goInt i)|none=>pure (goInt (-1))):=by
   split<;>exact Sf.pure (.int _ _)
  have rest:Sf Z P (VP Z) (do
   if b.size ≥ 2^32 - 15 then unsupported (.noEntry "extern/internal/bytealg.Index: a haystack of 2^32 - 15 bytes or more")
   match (List.range (b.size+1 - c.size)).find? fun i=>b.extract i (i+c.size)==c with|some i=>pure (goInt i)|none=>pure (goInt (-1))):=by
   dsimp only;split
   ·exact Sf.bind (R:=fun _=>True) (H7 _ trivial) fun _ _=>last
   ·exact last
  exact O3 _ (Sf.bind (R:=fun _=>True) (H7 _ trivial) fun _ _=>rest) rest
 ·exact l7 _
omit hT hP in
theorem b0O:∀(n t:Nat){acc:Array Value},AP Z acc->AP Z (BytealgMakeNoZero.digits n t acc)
 | 0,_,_,h=>h
 | n+1,t,_,h=>b0O n (t/256) (h.push (.int _ _))
omit hT in
theorem a9T(ps rs:Array TypeId){args:Array Value}(_:AP Z args):Sf Z P (VP Z) (BytealgMakeNoZero.makeNoZero ps rs args):=by
 obtain⟨l⟩:=args;rcases l with _|⟨x,_|⟨y,l⟩⟩
 ·exact l7 _
 ·cases x with
  | int k n=>
   cases k<;>first|exact l7 _|skip
   show Sf Z P (VP Z) (BytealgMakeNoZero.makeNoZero ps rs #[.int .i64 n]);unfold BytealgMakeNoZero.makeNoZero;have rest:∀elem,Sf Z P (VP Z) (do
    let cap <-choose (.appendCap n.toNat 0 elem)
    askRoom cap
    let bytes <-choose (.extern "internal/bytealg.MakeNoZero.bytes" 0)
    let a <-newRow elem (BytealgMakeNoZero.digits cap bytes #[])
    pure (.slice (some a) n.toNat cap)):=fun elem=>
    Sf.bind (L8 _) fun c _=>Sf.bind (a3q _) fun _ _=>Sf.bind (L8 _) fun b _=>Sf.bind (Z7 elem (b0O _ _ AP.nil)) fun a ha=>Sf.pure (.slice _ _ _ ha)
   dsimp only;split
   ·refine Sf.bind (o6 _) fun d _=>?_;split
    ·split
     ·exact Sf.bind (R:=fun _=>True) (o9 hP _) fun _ _=>rest _
     ·exact rest _
    ·exact l7 _
   ·exact l7 _
  | _=>exact l7 _
 ·cases x with
  | int k n=>cases k<;>exact l7 _
  | _=>exact l7 _
omit hT in
theorem b73(t:Extern.Atomic.T){args:Array Value}(h:AP Z args):Sf Z P (VP Z) (Atomic.loadT t args):=by
 obtain⟨l⟩:=args;rcases l with _|⟨x,_|⟨y,l⟩⟩
 ·exact l7 _
 ·unfold Atomic.loadT Atomic.read;refine Sf.bind (a1X hP (h x (by simp))) fun a ha=>Sf.bind (c0A ha) fun v hv=>?_;split<;>first|exact Sf.pure hv|exact H7 _ trivial|skip
  split
  ·exact Sf.pure hv
  ·exact H7 _ trivial
 ·exact l7 _
end
end
section
structure ZB where
 F:FuncId->Bool
 T:TypeId->Bool
 N:String->Bool
 G:Nat
def ZB.zone(B:ZB):Zone:={D:=fun b=>b<=B.G,F:=fun f=>B.F f=true,T:=fun t=>B.T t=true,N:=fun n=>B.N n=true,Y:=fun _=>False}
variable(B:ZB)
def b7G:Fn->Bool
 | .func f=>B.F f
 | .method n=>B.N n
 | _=>false
def vOK:Nat->Value->Bool
 | 0,_=>false
 | n+1,v=>match v with
  | .bool _|.int .. | .float .. | .complex .. | .string _|.pointer none|.slice none _ _|.map none|.chan none|.nilFunc|.nilIface=>true
  | .pointer (some a)=>decide (a.block<=B.G)
  | .func fn f c=>b7G B fn&&f.toList.all (vOK n)&&c.toList.all (vOK n)
  | .iface t v=>B.T t&&vOK n v
  | .agg c|.tuple c=>c.toList.all (vOK n)
  | _=>false
def b0E:Operand->Bool
 | .tmp _=>true
 | .const v=>vOK B 8 v
 | .global g=>decide (g<=B.G)
 | .func f=>B.F f
def b3i:Callee->Bool
 | .invoke _ n=>B.N n
 | .builtin b=>bOK b
 | .value _=>true
def c5g:Op->Bool
 | .makeInterface t _=>B.T t
 | .makeFunc fn _ _=>b7G B fn
 | .call c=>b3i B c.callee
 | .go _|.defer _|.send .. | .recv .. | .select .. | .makeChan .. | .ready _|.waits _|.mapEntry .. | .entryStore .. | .sliceToArrayPointer ..=>false
 | _=>true
def b7H(o:Op):Bool:=c5g B o&&o.operands.toList.all (b0E B)
def cOK:Code->Bool
 | .seq a b=>cOK a&&cOK b
 | .cond _ a b=>cOK a&&cOK b
 | .block _ b=>cOK b
 | .loop b=>cOK b
 | .scope b=>cOK b
 | .region _ ops _=>ops.toList.all fun o=>b7H B o.op
 | .rangeFunc f _ assign body=>b0E B f&&cOK assign&&cOK body
 | _=>true
variable{B}
theorem b7G.sound{f:Fn}(h:b7G B f=true):FnP B.zone f:=by
 cases f with
 | func f=>exact .func f h
 | method n=>exact .method n h
 | _=>cases h
theorem vOK.sound:∀(n:Nat)(v:Value),vOK B n v=true->VP B.zone v:=by
 intro n
 induction n with
 | zero=>intro v h;cases h
 | succ n ih=>
  have all:∀c:Array Value,c.toList.all (vOK B n)=true->∀x∈c,VP B.zone x:=fun c hc x hx=>ih x (List.all_eq_true.1 hc x (by simpa using hx));intro v h;unfold vOK at h;split at h<;>first|(constructor;done)|skip
  ·rename_i a;exact .ptr a (of_decide_eq_true (p:=a.block<=B.G) h:a.block<=B.G)
  ·rename_i fn f c;simp only[Bool.and_eq_true] at h;exact .func fn f c (b7G.sound h.1.1) (all f h.1.2) (all c h.2)
  ·rename_i t v;simp only[Bool.and_eq_true] at h;exact .iface t v h.1 (ih v h.2)
  ·exact .agg _ (all _ h)
  ·exact .tuple _ (all _ h)
  ·cases h
theorem b0E.sound{x:Operand}(h:b0E B x=true):b4X B.zone x:=by
 cases x with
 | tmp t=>trivial
 | const v=>exact vOK.sound _ _ h
 | global g=>exact(of_decide_eq_true (p:=g<=B.G) h:g<=B.G)
 | func f=>exact h
theorem b7H.sound{o:Op}(h:b7H B o=true):OpP B.zone o:=by
 unfold b7H at h;simp only[Bool.and_eq_true] at h;refine⟨?_,fun x hx=>b0E.sound (List.all_eq_true.1 h.2 x (by simpa using hx))⟩;have h1:=h.1;cases o<;>first|trivial|exact h1|(exact b7G.sound h1)|(cases h1;done)|skip
 rename_i c;show a4s B.zone c.callee;have h2:b3i B c.callee=true:=h1;cases hc:c.callee<;>rw[hc] at h2<;>first|exact h2|trivial
theorem cOK.sound:∀{c:Code},cOK B c=true->CodeP B.zone c:=by
 intro c
 induction c with
 | seq a b iha ihb=>intro h;simp only[cOK,Bool.and_eq_true] at h;exact⟨iha h.1,ihb h.2⟩
 | cond _ a b iha ihb=>intro h;simp only[cOK,Bool.and_eq_true] at h;exact⟨iha h.1,ihb h.2⟩
 | block _ b ih=>intro h;exact ih h
 | loop b ih=>intro h;exact ih h
 | scope b ih=>intro h;exact ih h
 | region _ ops _=>intro h o ho;exact b7H.sound (List.all_eq_true.1 (show ops.toList.all (fun o=>b7H B o.op)=true from h) o (by simpa using ho))
 | rangeFunc f _ a b iha ihb=>intro h;simp only[cOK,Bool.and_eq_true] at h;exact⟨b0E.sound h.1.1,iha h.1.2,ihb h.2⟩
 | _=>intro _;trivial
end
section
open Go.Made
variable{Z:Zone}
def ZOK(Z:Zone)(i:TypeInfo):Prop:=∀z,i.zero=some z->VP Z z
theorem b74{α β:Type}(P:β->Prop)(f:α->β->Option (ForInStep β))(hf:∀a b s,P b->f a b=some s->P (match s with|.yield b=>b|.done b=>b)):
 ∀(l:List α)(b b':β),P b->forIn l b f=some b'->P b':=by
 intro l
 induction l with
 | nil=>intro b b' h e;simp at e;exact e▸h
 | cons a l ih=>
  intro b b' h e;rw[List.forIn_cons] at e
  cases hs:f a b with
  | none=>rw[hs] at e;cases e
  | some s=>
   rw[hs] at e;have:=hf a b s h hs
   cases s with
   | yield b1=>exact ih b1 b' this e
   | done b1=>simp at e;exact e▸this
theorem a4y{d:TypeDesc}{s:String}{z:Value}{c:Bool}{n:Nat}(h:VP Z z):ZOK Z (word d s z c n)/\(word d s z c n).methods=#[]:=⟨fun z' e=>by
 simp only[word,Option.some.injEq] at e;exact e▸h,rfl⟩
theorem b75{info:TypeId->Option TypeInfo}(hi:∀t i,info t=some i->ZOK Z i){fs:Array Field}{i:TypeInfo}(h:reckonStruct info fs=some i):ZOK Z i/\i.methods=#[]:=by
 unfold reckonStruct at h;simp only[bind,Option.bind_eq_some_iff] at h;obtain⟨a,ha,hr⟩:=h;rw[<-Array.forIn_toList] at ha;have key:∀zs,a.2.2.2.2.2.2.2.1=some zs->AP Z zs:=by
  refine b74 (P:=fun b=>∀zs,b.2.2.2.2.2.2.2.1=some zs->AP Z zs) _ ?_ _ _ _ ?_ ha
  ·intro f b s hb e;obtain⟨i,hi',e⟩:=Option.bind_eq_some_iff.1 e;have hz:=hi _ _ hi';have fin:∀zs,(if b.2.1+i.size>mostCells then none else b.2.2.2.2.2.2.2.1.bind fun x=>i.zero.bind fun y=>pure (x++y.cells))=some zs->AP Z zs:=by
    intro zs h;split at h
    ·cases h
    ·obtain⟨x,hx,h⟩:=Option.bind_eq_some_iff.1 h;obtain⟨y,hy,h⟩:=Option.bind_eq_some_iff.1 h;injection h with h;subst h;exact(hb x hx).append (hz y hy).cells
   by_cases h1:i.str.isEmpty=true
   ·rw[if_pos h1] at e;simp at e
   rw[if_neg h1] at e;by_cases h2:f.embedded=true
   ·simp[h2] at e
   rw[if_neg h2] at e;have tail:∀tag,(fun tag:String=>if i.bytes=0 then pure (f:=Option) (ForInStep.yield (b.1.push {name:=f.name,type:=f.type,offset:=b.2.1,embedded:=f.embedded,tag:=f.tag,pkgPath:=f.pkgPath,byteOffset:=roundUp b.2.2.1 i.align},b.2.1+i.size,roundUp b.2.2.1 i.align+i.bytes,max b.2.2.2.1 i.align,roundUp b.2.2.1 i.align+i.bytes,b.2.2.2.2.2.1||i.hasPointers,b.2.2.2.2.2.2.1&&i.comparable,(if b.2.1+i.size>mostCells then none else b.2.2.2.2.2.2.2.1.bind fun x=>i.zero.bind fun y=>pure (x++y.cells)),b.2.2.2.2.2.2.2.2++ " "++f.name++ " "++i.str++tag++if b.1.size+1<fs.size then ";" else "")) else pure (ForInStep.yield (b.1.push {name:=f.name,type:=f.type,offset:=b.2.1,embedded:=f.embedded,tag:=f.tag,pkgPath:=f.pkgPath,byteOffset:=roundUp b.2.2.1 i.align},b.2.1+i.size,roundUp b.2.2.1 i.align+i.bytes,max b.2.2.2.1 i.align,b.2.2.2.2.1,b.2.2.2.2.2.1||i.hasPointers,b.2.2.2.2.2.2.1&&i.comparable,(if b.2.1+i.size>mostCells then none else b.2.2.2.2.2.2.2.1.bind fun x=>i.zero.bind fun y=>pure (x++y.cells)),b.2.2.2.2.2.2.2.2++ " "++f.name++ " "++i.str++tag++if b.1.size+1<fs.size then ";" else ""))) tag=some s->(match s with|.yield b=>∀zs,b.2.2.2.2.2.2.2.1=some zs->AP Z zs|.done b=>∀zs,b.2.2.2.2.2.2.2.1=some zs->AP Z zs):=by
    intro tag h;dsimp only at h;split at h<;>(injection h with h;subst h;exact fin)
   split at e
   ·obtain⟨tag,_,e⟩:=Option.bind_eq_some_iff.1 e;cases s<;>exact tail tag e
   ·obtain⟨tag,_,e⟩:=Option.bind_eq_some_iff.1 e;cases s<;>exact tail tag e
  ·intro zs h;injection h with h;subst h;exact AP.nil
 split at hr<;>(injection hr with hr;subst hr;refine⟨fun z h=>?_,rfl⟩;obtain⟨c,hc,rfl⟩:=Option.map_eq_some_iff.1 h;exact .agg _ (key c hc))
theorem b76{info:TypeId->Option TypeInfo}(hi:∀t i,info t=some i->ZOK Z i){d:TypeDesc}{i:TypeInfo}(h:reckon info d=some i):ZOK Z i/\i.methods=#[]:=by
 cases d with
 | pointer e=>
  simp only[reckon,bind,Option.bind_eq_some_iff] at h;obtain⟨j,_,h⟩:=h;split at h
  ·cases h
  ·split at h
   ·cases h
   ·obtain⟨s,_,h⟩:=Option.bind_eq_some_iff.1 h;injection h with h;subst h;exact a4y .pnil
  ·obtain⟨s,_,h⟩:=Option.bind_eq_some_iff.1 h;injection h with h;subst h;exact a4y .pnil
 | slice e=>
  simp only[reckon,bind,Option.bind_eq_some_iff] at h;obtain⟨j,_,s,_,h⟩:=h
  injection h with h;subst h;exact a4y (.snil _ _)
 | map k e=>
  simp only[reckon,bind,Option.bind_eq_some_iff] at h;obtain⟨j,_,s,_,j',_,s',_,h⟩:=h
  injection h with h;subst h;exact a4y .mnil
 | chan dir e=>
  simp only[reckon,bind,Option.bind_eq_some_iff] at h;obtain⟨j,_,s,_,h⟩:=h
  injection h with h;subst h;exact a4y .cnil
 | func ps rs v=>
  simp only[reckon,bind,Option.bind_eq_some_iff] at h;obtain⟨s,_,h⟩:=h
  injection h with h;subst h;exact a4y .nilFunc
 | array n e=>
  simp only[reckon,bind,Option.bind_eq_some_iff] at h;obtain⟨j,hj,s,_,h⟩:=h;injection h with h;subst h;refine⟨fun z h=>?_,rfl⟩;dsimp only at h;split at h
  ·cases h
  ·split at h
   ·injection h with h;subst h;exact .agg _ AP.nil
   ·obtain⟨z',hz',rfl⟩:=Option.map_eq_some_iff.1 h;have hc:=(hi _ _ hj z' hz').cells;refine .agg _ fun x hx=>?_;simp only[Array.mem_flatten,Array.mem_replicate] at hx;obtain⟨l,⟨_,rfl⟩,hx⟩:=hx
    exact hc x hx
 | struct fs=>exact b75 hi h
 | _=>cases h
theorem b0P{T:Tables}(hT:∀(t:Nat)(i:TypeInfo),T.types[t]?=some i->ZOK Z i):∀f t i,Made.infoAt T f t=some i->ZOK Z i/\(T.types.size<=t->i.methods=#[])
 | 0,_,_,h=>by cases h
 | f+1,t,i,h=>by
  unfold Made.infoAt at h;split at h
  ·rename_i hlt;exact⟨hT t i h,fun hge=>absurd hlt (Nat.not_lt.mpr hge)⟩
  ·obtain⟨d,_,h⟩:=Option.bind_eq_some_iff.1 h;have:=b76 (fun t i h=>(b0P hT f t i h).1) h;exact⟨this.1,fun _=>this.2⟩
theorem info_ok{T:Tables}(hT:∀(t:Nat)(i:TypeInfo),T.types[t]?=some i->ZOK Z i){t:TypeId}{i:TypeInfo}(h:T.info? t=some i):ZOK Z i/\(T.types.size<=t->i.methods=#[]):=by
 unfold Tables.info? at h;split at h
 ·rename_i hlt;exact⟨hT t i h,fun hge=>absurd hlt (Nat.not_lt.mpr hge)⟩
 ·exact b0P hT _ t i h
theorem info_old{T:Tables}{t:TypeId}(ht:t<T.types.size){i:TypeInfo}(h:T.info? t=some i):T.types[t]?=some i:=by
 unfold Tables.info? at h;rw[if_pos ht] at h;exact h
end
end Go.Zn
namespace Go.Proofs.YtgpbhjjajpbeeaaGreatDoor
section
open Go.RowKit Go.Zn Go.Extern
def fs:Nat:=13968099261131126359713065202646624295774213882799324763965390427744041519001600
def zb:ZB:={F:=fun f=>fs.testBit f,T:=fun _=>true,N:=fun n=>["Comparable","AssignableTo","Is","Kind","Elem","As","Unwrap","Implements"].contains n,G:=7}
def zone:Zone:=zb.zone
noncomputable def b1V(f:Nat):Bool:=!fs.testBit f||(match Tryz.prog.funcs[f]? with
 | some fn=>(fn.name != "runtime.NumGoroutine")&&(match fn.body with|some c=>cOK zb c|none=>true)
 | none=>true)
theorem codes:(List.range 263).all b1V=true:=by kernel_rfl
theorem c2B:∀f,fs.testBit f=true->f<263:=fun f h=>by
 rcases Nat.lt_or_ge f 263 with h1|h1
 ·exact h1
 ·obtain⟨k,rfl⟩:∃k,f=250+k:=⟨f - 250,by omega⟩;rw[Nat.testBit_lt_two_pow (Nat.lt_of_lt_of_le (by decide:fs<2^250*2^13) (by rw[Nat.pow_add];exact Nat.mul_le_mul_left _ (Nat.pow_le_pow_right (by decide) (by omega))))] at h;cases h
noncomputable def b5i(f:Nat):Bool:=!fs.testBit f||(match Tryz.prog.funcs[f]? with
 | some fn=>fn.body.isSome||[97,118,119,120,121,162,163,206,207,231,233,247,248,255,259,260,261,262].contains f
 | none=>true)
theorem c5X:(List.range 263).all b5i=true:=by kernel_rfl
def typeAt(i:TypeInfo):Bool:=(match i.zero with|some z=>vOK zb 6 z|none=>true)&&i.methods.toList.all fun m=>!zb.N m.name||(match m.func with|some (f,_)=>fs.testBit f|none=>true)
theorem types:Tryz.prog.types.toList.all typeAt=true:=by kernel_rfl
theorem globals_size:Tryz.prog.globals.size=7:=by kernel_rfl
variable{Z':Zone}
theorem c5i(h:Le zone Z'):c5k Z':=fun t=>h.T▸(rfl:zb.T t=true)
theorem pok(h:Le zone Z'):POK Z' Tryz.prog:=by
 have hty:∀(t:Nat)(i:TypeInfo),Tryz.prog.types[t]?=some i->typeAt i=true:=fun t i hi=>List.all_eq_true.1 types i (by rw[<-Array.getElem?_toList] at hi;exact List.mem_of_getElem? hi);have hz:∀(t:Nat)(i:TypeInfo),Tryz.prog.types[t]?=some i->ZOK Z' i:=fun t i hi z hzz=>by
  have h1:=hty t i hi;unfold typeAt at h1;simp only[Bool.and_eq_true] at h1;rw[hzz] at h1;exact(vOK.sound _ _ h1.1).mono h
 refine⟨fun t i z hi=>(info_ok (Z:=Z') hz hi).1 z,h.D _ (show Tryz.prog.globals.size<=7 by rw[globals_size];exact Nat.le_refl _),fun t i _ hi m hm hN f p hf=>?_⟩;rcases Nat.lt_or_ge t Tryz.prog.types.size with ht|ht
 ·have h1:=hty t i (info_old ht hi);unfold typeAt at h1;simp only[Bool.and_eq_true] at h1;have h2:=List.all_eq_true.1 h1.2 m (by simpa using hm);rw[hf] at h2;have hN':zb.N m.name=true:=by rw[h.N] at hN;exact hN
  rw[hN'] at h2;rw[h.F];exact(by simpa using h2:fs.testBit f=true)
 ·rw[(info_ok (Z:=Z') hz hi).2 ht] at hm;simp at hm
theorem z_f(h:Le zone Z'){f:FuncId}(hf:Z'.F f):fs.testBit f=true:=by rw[h.F] at hf;exact hf
theorem c5j(h:Le zone Z'):∀b,b<Tryz.prog.globals.size->Z'.D b:=fun b hb=>h.D b (by rw[globals_size] at hb;exact Nat.le_of_lt hb)
theorem Y3{fn:Func}{x:Array Value->Sem Value}(hn:Extern.findNext fn=none)(hf:Extern.find fn=some x)(hx:∀args,AP Z' args->Sf Z' Tryz.prog (VP Z') (x args)):
 (∀e args,Extern.findNext fn=some e->AP Z' args->Sf Z' Tryz.prog (a1E Z') (e args))/\(∀e args,Extern.find fn=some e->AP Z' args->Sf Z' Tryz.prog (VP Z') (e args)):=
 ⟨fun e args h=>absurd h (by rw[hn];simp),fun e args h ha=>(Option.some.inj (hf.symm.trans h))▸hx args ha⟩
theorem c0S{fn:Func}(hn:Extern.findNext fn=none)(hf:Extern.find fn=none):
 (∀e args,Extern.findNext fn=some e->AP Z' args->Sf Z' Tryz.prog (a1E Z') (e args))/\(∀e args,Extern.find fn=some e->AP Z' args->Sf Z' Tryz.prog (VP Z') (e args)):=
 ⟨fun e args h=>absurd h (by rw[hn];simp),fun e args h=>absurd h (by rw[hf];simp)⟩
theorem c2C(h:Le zone Z'):∀f∈[97,118,119,120,121,162,163,206,207,231,233,247,248,255,259,260,261,262],∀fn,Tryz.prog.funcs[f]?=some fn->
 (∀e args,Extern.findNext fn=some e->AP Z' args->Sf Z' Tryz.prog (a1E Z') (e args))/\(∀e args,Extern.find fn=some e->AP Z' args->Sf Z' Tryz.prog (VP Z') (e args)):=by
 have hP:=pok h;have hT:=c5i h;have hG:=c5j h;intro f hf fn hfn;simp only[List.mem_cons,List.not_mem_nil,or_false] at hf;rcases hf with rfl|rfl|rfl|rfl|rfl|rfl|rfl|rfl|rfl|rfl|rfl|rfl|rfl|rfl|rfl|rfl|rfl|rfl
 ·obtain rfl:=Option.some.inj (Tryz.func97.symm.trans hfn);exact Y3 (x:=ReflectliteType.typeOf) (by kernel_rfl) (by kernel_rfl) fun args ha=>b70 hT hP ha
 ·obtain rfl:=Option.some.inj (Tryz.func118.symm.trans hfn);exact Y3 (x:=Atomic.loadT (.int .i64)) (by kernel_rfl) (by kernel_rfl) fun args ha=>b73 hP _ ha
 ·obtain rfl:=Option.some.inj (Tryz.func119.symm.trans hfn);exact Y3 (x:=fun args=>ReflectliteValue.unpack (args.getD 0 (.tuple #[]))) (by kernel_rfl) (by kernel_rfl) fun args ha=>b0N hT hP (ha.getD 0 (.tuple _ AP.nil))
 ·obtain rfl:=Option.some.inj (Tryz.func120.symm.trans hfn);exact Y3 (x:=ReflectliteValue.methodAny (ReflectliteValue.valueError "reflectlite.Value.Type" 0) fun t _ _ _=>ReflectliteType.toType t) (by kernel_rfl) (by kernel_rfl) fun args ha=>a9Q hT hP (a0i hT hP _ _) (fun t _ _ _ _=>a6L hT hP t) ha
 ·obtain rfl:=Option.some.inj (Tryz.func121.symm.trans hfn);exact Y3 (x:=ReflectliteValue.method (ReflectliteValue.valueError "reflectlite.Value.IsNil" 0) ReflectliteValue.isNil) (by kernel_rfl) (by kernel_rfl) fun args ha=>a5f hT hP (a0i hT hP _ _) (fun t a fl k h=>b71 hT hP t h fl k) ha
 ·obtain rfl:=Option.some.inj (Tryz.func162.symm.trans hfn);exact Y3 (x:=ReflectliteValue.method (ReflectliteValue.valueError "reflectlite.Value.Elem" 0) ReflectliteValue.elem) (by kernel_rfl) (by kernel_rfl) fun args ha=>a5f hT hP (a0i hT hP _ _) (fun t a fl k h=>c0W hT hP t h fl k) ha
 ·obtain rfl:=Option.some.inj (Tryz.func163.symm.trans hfn);exact Y3 (x:=ReflectliteValue.set) (by kernel_rfl) (by kernel_rfl) fun args ha=>c4f hT hP ha
 ·obtain rfl:=Option.some.inj (Tryz.func206.symm.trans hfn);exact Y3 (x:=AbiNoEscape.same) (by kernel_rfl) (by kernel_rfl) fun args ha=>c2G ha
 ·obtain rfl:=Option.some.inj (Tryz.func207.symm.trans hfn);exact Y3 (x:=BytealgMakeNoZero.makeNoZero Tryz.f207.params Tryz.f207.resultTypes) (by kernel_rfl) (by kernel_rfl) fun args ha=>a9T hP _ _ ha
 ·obtain rfl:=Option.some.inj (Tryz.func231.symm.trans hfn);exact Y3 (x:=BytealgIndex.index) (by kernel_rfl) (by kernel_rfl) fun args ha=>c0X hP hG ha
 ·obtain rfl:=Option.some.inj (Tryz.func233.symm.trans hfn);exact Y3 (x:=BytealgIndexByte.indexByte) (by kernel_rfl) (by kernel_rfl) fun args ha=>b1Y ha
 ·obtain rfl:=Option.some.inj (Tryz.func247.symm.trans hfn);exact c0S (by kernel_rfl) (by kernel_rfl)
 ·obtain rfl:=Option.some.inj (Tryz.func248.symm.trans hfn);exact Y3 (x:=ReflectliteType.abiMethod fun t=>do pure (.int .u8 (<-Rtype.kind t))) (by kernel_rfl) (by kernel_rfl) fun args ha=>b1X hT hP (fun t=>Sf.bind (a7U t) fun _ _=>Sf.pure (.int _ _)) args
 ·obtain rfl:=Option.some.inj (Tryz.func255.symm.trans hfn);exact Y3 (x:=ReflectliteValue.method (pure (.int .u8 0)) fun _ _ _ k=>pure (.int .u8 (Int.ofNat k))) (by kernel_rfl) (by kernel_rfl) fun args ha=>a5f hT hP (Sf.pure (.int _ _)) (fun _ _ _ _ _=>Sf.pure (.int _ _)) ha
 ·obtain rfl:=Option.some.inj (Tryz.func259.symm.trans hfn);exact Y3 (x:=ReflectliteType.relation "AssignableTo" ReflectliteType.assignableTo) (by kernel_rfl) (by kernel_rfl) fun args ha=>a7t hT hP (a7J hT hP) args
 ·obtain rfl:=Option.some.inj (Tryz.func260.symm.trans hfn);exact Y3 (x:=ReflectliteType.method fun t=>do Rtype.noPackHeld "Comparable" t;pure (.bool (<-typeInfo t).comparable)) (by kernel_rfl) (by kernel_rfl) fun args ha=>b0M a9P args
 ·obtain rfl:=Option.some.inj (Tryz.func261.symm.trans hfn);exact Y3 (x:=ReflectliteType.method ReflectliteType.elem) (by kernel_rfl) (by kernel_rfl) fun args ha=>b0M (c0V hT hP) args
 ·obtain rfl:=Option.some.inj (Tryz.func262.symm.trans hfn);exact Y3 (x:=ReflectliteType.relation "Implements" ReflectliteType.implements_) (by kernel_rfl) (by kernel_rfl) fun args ha=>a7t hT hP (a9d hT hP) args
theorem pqk:∀Z',Le zone Z'->PQK Z' Tryz.prog:=fun Z' h=>by
 have at_:∀f fn,Z'.F f->Tryz.prog.funcs[f]?=some fn->b1V f=true/\b5i f=true/\fs.testBit f=true:=fun f fn hf _=>by
  have h1:=z_f h hf;have h2:=c2B f h1;exact⟨List.all_eq_true.1 codes f (List.mem_range.2 h2),List.all_eq_true.1 c5X f (List.mem_range.2 h2),h1⟩
 refine⟨pok h,fun f fn hf hfn=>?_,fun f fn hf hfn hb=>?_,fun f fn c hf hfn hb=>?_⟩
 ·obtain⟨h1,-,h3⟩:=at_ f fn hf hfn;unfold b1V at h1;rw[h3,hfn] at h1;simp only[Bool.not_true,Bool.false_or,Bool.and_eq_true] at h1;simpa using h1.1
 ·obtain⟨-,h1,h3⟩:=at_ f fn hf hfn;unfold b5i at h1;rw[h3,hfn] at h1;simp only[Bool.not_true,Bool.false_or,hb,Option.isSome_none] at h1;exact c2C h f (by simpa using h1) fn hfn
 ·obtain⟨h1,-,h3⟩:=at_ f fn hf hfn;unfold b1V at h1;rw[h3,hfn] at h1;simp only[Bool.not_true,Bool.false_or,Bool.and_eq_true,hb] at h1;exact(cOK.sound h1.2).mono h
end
section
open Go.RowKit Go.Conc
def Code.behind:Nat->Code->Code
 | 0,c=>c
 | n+1,c=>match c with
  | .seq _ b=>behind n b
  | c=>c
def Code.head:Code->Code
 | .seq a _=>a
 | c=>c
noncomputable def I5(n:Nat):Code:=Code.behind n (Tryz.f14.body.getD .skip)
noncomputable def c1F:Code:=match Code.head (I5 8) with|.seq _ (.block _ c)=>c|c=>c
noncomputable def Y8:Code:=match c1F with|.loop c=>c|c=>c
noncomputable def a8v:Array Oper:=match Code.head (I5 9) with|.region _ ops _=>ops|_=>#[]
noncomputable def a5w:Code:=match Y8 with|.seq _ (.seq _ (.seq (.block _ c) _))=>c|c=>c
theorem c3B:I5 9=.seq (.region 24 a8v false) (I5 10):=by kernel_rfl
theorem b2G:a8v=#[{dst:=some 78,op:=.call {callee:=.value (.func 63),args:=#[.tmp 13],argTypes:=#[149]},type:=0,pos:= "keydir.go:126",after:=#[],guard:=none}]:=by kernel_rfl
theorem round_eq:Y8=.seq (.region 19 #[{dst:=some 73,op:=.binOp .lss 3 (.tmp 72) (.tmp 71) 3,type:=0,pos:= "keydir.go:117",after:=#[],guard:=none}] false)
 (.seq (.cond (.tmp 73) .skip (.exit 2)) (.seq (.block 3 a5w) (.region 23 #[{dst:=some 77,op:=.binOp .add 3 (.tmp 72) (.const (.int .i64 1)) 3,type:=3,pos:= "keydir.go:117",after:=#[],guard:=none},
   {dst:=some 72,op:=.move (.tmp 77),type:=3,pos:= "keydir.go:117",after:=#[{on:=0,ground:=.data}],guard:=none}] false))):=by kernel_rfl
theorem c1G:a5w=.seq (.region 20 #[{dst:=some 74,op:=.move (.tmp 72),type:=3,pos:= "keydir.go:117",after:=#[],guard:=none},{dst:=some 14,op:=.alloc 3,type:=0,pos:= "keydir.go:117",after:=#[],guard:=none},
 {dst:=none,op:=.store 3 (.tmp 14) (.tmp 74),type:=0,pos:= "keydir.go:117",after:=#[{on:=1,ground:=.data},{on:=0,ground:=.data},{on:=0,ground:=.phase},{on:=1,ground:=.phase}],guard:=none}] false)
 (.seq (.region 21 #[{dst:=some 75,op:=.call {callee:=.value (.func 58),args:=#[.tmp 13,.const (.int .i64 1)],argTypes:=#[149,3]},type:=0,pos:= "keydir.go:118",after:=#[],guard:=none}] false)
   (.region 22 #[{dst:=some 76,op:=.makeFunc (.func 59) #[] #[.tmp 13,.tmp 14,.tmp 6,.tmp 4,.tmp 11,.tmp 12],type:=1,pos:= "keydir.go:119",after:=#[],guard:=none},
     {dst:=none,op:=.go {callee:=.value (.tmp 76),args:=#[],argTypes:=#[]},type:=0,pos:= "keydir.go:119",after:=#[{on:=0,ground:=.data}],guard:=none}] false)):=by kernel_rfl
end
def a5Y(x:Nat->Value):Array Value:=#[x 0,x 1,x 2,x 3,x 4,x 5,x 6,x 7,x 8,x 9,x 10,x 11,x 12,x 13,x 14,x 15,x 16,x 17,x 18,x 19,x 20,x 21,x 22,x 23,x 24,x 25,x 26,x 27,x 28,x 29,x 30,x 31,x 32,x 33,x 34,x 35,x 36,x 37,x 38,x 39,x 40,x 41,x 42,x 43,x 44,x 45,x 46,x 47,x 48,x 49,x 50,x 51,x 52,x 53,x 54,x 55,x 56,x 57,x 58,x 59,x 60,x 61,x 62,x 63,x 64,x 65,x 66,x 67,x 68,x 69,x 70,x 71,x 72,x 73,x 74,x 75,x 76,x 77,x 78,x 79,x 80,x 81,x 82,x 83,x 84,x 85,x 86,x 87,x 88,x 89,x 90,x 91,x 92,x 93,x 94,x 95,x 96,x 97,x 98,x 99,x 100,x 101,x 102,x 103,x 104,x 105,x 106,x 107,x 108,x 109,x 110,x 111,x 112,x 113,x 114,x 115,x 116,x 117]
def up(x:Nat->Value)(k:Nat)(v:Value)(j:Nat):Value:=if j=k then v else x j
theorem a0F{x:Nat->Value}{k:Nat}{v:Value}(h:x k=v):up x k v=x:=by
 funext j
 unfold up;split
 ·rename_i e;rw[e,h]
 ·rfl
theorem U0{A:(Nat->Value)->Array Value}{T:Array Value}{x:Nat->Value}{k:Nat}{v:Value}(e:T=A x)(h:x k=v):T=A (up x k v):=by
 rw[a0F h];exact e
theorem G9{T:Array Value}{k:Nat}{v:Value}(h:T[k]?=some v):T.getD k undef=v:=by
 rw[Array.getD_eq_getD_getElem?,h];rfl
theorem c0Y{A:(Nat->Value)->Array Value}{n:Nat}(hA:∀x,A x=((List.range n).map x).toArray)(x:Nat->Value){k:Nat}(hk:k<n):(A x)[k]?=some (x k):=by
 rw[hA];simp[hk]
theorem b0Q{A:(Nat->Value)->Array Value}{n:Nat}(hA:∀x,A x=((List.range n).map x).toArray)(T:Array Value)(hT:T.size=n):T=A (fun k=>T.getD k undef):=by
 rw[hA];apply Array.ext
 ·simp[hT]
 ·intro j h1 h2;simp[Array.getD,h1]
theorem b77(x:Nat->Value):a5Y x=((List.range 118).map x).toArray:=by rfl
theorem a1Y(T:Array Value)(hT:T.size=118):T=a5Y (fun k=>T.getD k undef):=b0Q b77 T hT
section
open Go.RowKit Go.Lib Go.Maps Dk Pl
def QO1(F:Nat->Prop)(a:Nat)(d:D)(w:World):Exit->Act->World->Prop
 | .normal,a',w'=>a'.defers=[]/\a'.tmps.size=118/\a'.tmps[0]?=some (y8 a)/\a'.tmps[2]?=some (.pointer none)/\a'.tmps[3]?=some .nilIface/\∃mb g v y,a'.tmps[4]?=some (.pointer (some ⟨mb,0,none⟩))/\a'.tmps[5]?=some y/\w.heap.size<=mb/\
  o7 w' mb 125 #[.int .u64 g,v]/\A8 w' F a d.readMan.2.2/\Chg F F w w'/\
  ((d.readMan.1=none/\d.readMan.2.1≠.ok/\Held w' F (fun W=>ErrAt W y d.readMan.2.1))\/(∃gen ids,d.readMan.1=some (gen,ids)/\d.readMan.2.1=.ok/\g=(gen:Int)/\y=.nilIface/\OwnI w' w.heap.size v ids))
 | _,_,_=>False
noncomputable def N7(n:Nat):Code:=Code.head (I5 n)
def QO0(a:Nat)(w:World):Exit->Act->World->Prop
 | .normal,a',w'=>a'.defers=[]/\a'.tmps.size=118/\a'.tmps[0]?=some (y8 a)/\a'.tmps[2]?=some (.pointer none)/\a'.tmps[3]?=some .nilIface/\w'=w
 | _,_,_=>False
theorem t0{a:Nat}(T:Array Value)(hT:T.size=118)(h0:T[0]?=some (y8 a))(w:World):(N7 0).wp Tryz.prog (QO0 a w) ⟨T,[]⟩ w:=by
 rw[U0 (a1Y T hT) (k:=0) (G9 h0)];generalize (fun k=>T.getD k undef)=x;clear hT h0;unfold N7 I5;simp only[Code.behind,Code.head,Tryz.f14,Option.getD_some,a5Y,up,reduceIte,Nat.reduceEqDiff];go_wp2;exact⟨rfl,rfl,rfl,rfl,rfl,rfl⟩
theorem t1{a:Nat}(T:Array Value)(hT:T.size=118)(h0:T[0]?=some (y8 a))(h2:T[2]?=some (.pointer none))(h3:T[3]?=some (.nilIface))(F:Nat->Prop)(d:D)(w:World)(h:A8 w F a d)(hds:∀x∈d.ids,(d.node x).data.length<=35184372088832):(N7 1).wp Tryz.prog (QO1 F a d w) ⟨T,[]⟩ w:=by
 rw[U0 (U0 (U0 (a1Y T hT) (k:=0) (G9 h0)) (k:=2) (G9 h2)) (k:=3) (G9 h3)];generalize (fun k=>T.getD k undef)=x;clear hT h0 h2 h3;have hrm:=b1f F a d w h hds;have HRM:=Lib.hid hrm;clear hrm;unfold N7 I5;unfold y8 at *;simp only[Code.behind,Code.head,Tryz.f14,Option.getD_some,a5Y,up,reduceIte,Nat.reduceEqDiff];go_wp2_with fail
 refine HRM.out.mono ?_;rintro e w1 ⟨g,v,y,rfl,hD,hC,hcase⟩;obtain⟨ia,ik,ic,rfl⟩:∃ia ik ic,v=.slice ia ik ic:=by
  rcases hcase with⟨_,_,h,_⟩|⟨_,_,_,_,_,_,h⟩
  ·exact⟨_,_,_,h⟩
  ·obtain⟨x,y,h⟩:=ownsRow_form h;exact⟨_,_,_,h⟩
 have HD:=Lib.hid hD;have HC:=Lib.hid hC;have HK:=Lib.hid hcase;clear hD hC hcase h;go_wp2;have hE:Ext w1 (w1.alloc (.cells #[.int .u64 g,.slice ia ik ic] 125)):=(Ext.refl w1).new _;refine⟨rfl,rfl,rfl,rfl,rfl,w1.heap.size,g,.slice ia ik ic,y,rfl,rfl,HC.out.size,o7.new _ _ rfl,HD.out.ext hE,HC.out.trans (Chg.ext hE),?_⟩;rcases HK.out with⟨h1,h2,h3,h4,h5⟩|⟨gen,ids,h1,h2,h3,h4,h5⟩
 ·exact .inl ⟨h1,h4,h5.ext hE⟩
 ·exact .inr ⟨gen,ids,h1,h2,h3,h4,Dep.row h5 _ fun b hb=>hE.block b (a3O h5 hb)⟩
end
section
open Go.RowKit Go.Lib Go.Maps Dk Pl
theorem b3O:(Tryz.prog.info? 25).map (fun i=>(i.zero,i.size,i.bytes))=some (some (.slice none 0 0),1,24):=by kernel_rfl
theorem b2z(z:Value)(n:Nat):madeCells #[z] n=(List.replicate n z).toArray:=by
 apply Array.ext
 ·simp[madeCells]
 ·intro i h1 h2;simp[madeCells,Nat.mod_one]
def QO3(a mb:Nat)(n:Nat)(w:World):Exit->Act->World->Prop
 | .normal,a',w'=>a'.defers=[]/\a'.tmps.size=118/\a'.tmps[0]?=some (y8 a)/\a'.tmps[4]?=some (.pointer (some ⟨mb,0,none⟩))/\Ext w w'/\∃fb rb,a'.tmps[6]?=some (.pointer (some ⟨fb,0,none⟩))/\w.heap.size<=fb/\w.heap.size<=rb/\
  o7 w' fb 128 #[.slice (some ⟨rb,0,none⟩) n n]/\w'.heap[rb]?=some (.cells (List.replicate n (Value.slice none 0 0)).toArray 25)
 | _,_,_=>False
theorem t3{a mb:Nat}(T:Array Value)(hT:T.size=118)(h0:T[0]?=some (y8 a))(h4:T[4]?=some (.pointer (some ⟨mb,0,none⟩)))(g:Int)(v:Value)(ids:List Int)(w:World)(hb:o7 w mb 125 #[.int .u64 g,v])(hv:∃B,OwnI w B v ids)(hn:ids.length<=60):(N7 3).wp Tryz.prog (QO3 a mb ids.length w) ⟨T,[]⟩ w:=by
 rw[U0 (U0 (a1Y T hT) (k:=0) (G9 h0)) (k:=4) (G9 h4)];generalize (fun k=>T.getD k undef)=x;clear hT h0 h4;obtain⟨B,hv⟩:=hv;obtain⟨ia,ic,rfl⟩:=ownsRow_form hv;have hmk:=run_make_row' (P:=Tryz.prog) 128 25 (.slice none 0 0) 24 Tryz.underlying128 b3O rfl .i64 .i64 ids.length (by omega) (by omega) w;have c1:=(hb.cell 1).trans (show _=some (Value.slice ia ids.length ic) from rfl);unfold N7 I5 y8 at *;simp only[Code.behind,Code.head,Tryz.f14,Option.getD_some,a5Y,up,reduceIte,Nat.reduceEqDiff];go_wp2;have hE1:Ext w (w.alloc (.cells (madeCells #[.slice none 0 0] ids.length) 25)):=(Ext.refl w).new _;have hE2:Ext (w.alloc (.cells (madeCells #[.slice none 0 0] ids.length) 25)) ((w.alloc (.cells (madeCells #[.slice none 0 0] ids.length) 25)).alloc (.cells #[.slice (some ⟨w.heap.size,0,none⟩) ids.length ids.length] 128)):=(Ext.refl _).new _;refine⟨rfl,rfl,rfl,rfl,Ext.trans hE1 hE2,w.heap.size+1,w.heap.size,by rfl,by omega,Nat.le_refl _,?_,?_⟩
 ·show(World.heap _)[_]?=_;rw[show w.heap.size+1=(w.alloc (.cells (madeCells #[.slice none 0 0] ids.length) 25)).heap.size from(Array.size_push ..).symm];exact Array.getElem?_push_size
 ·rw[b2z];show((w.heap.push _).push _)[w.heap.size]?=_;rw[Array.getElem?_push_lt (by simp),Array.getElem_push_eq]
end
section
open Dk
def Dk.D.opensAcc:List Int->D->List (List UInt8)->List (List UInt8)×Er×D
 | [],d,acc=>(acc,.ok,d)
 | id::ids,d,acc=>match d.whole (G5 J8 id.toNat) with
  | (b,.ok,d1)=>D.opensAcc ids d1 (acc++[b])
  | (_,e,d1)=>(acc,if e.code=11 then .file 7 (G5 J8 id.toNat) else e,d1)
theorem a3P{id:Int}{ids:List Int}{d d1:D}{acc:List (List UInt8)}{b:List UInt8}(h:d.whole (G5 J8 id.toNat)=(b,.ok,d1)):D.opensAcc (id::ids) d acc=D.opensAcc ids d1 (acc++[b]):=by
 show(match d.whole (G5 J8 id.toNat) with|(b,.ok,d1)=>D.opensAcc ids d1 (acc++[b])|(_,e,d1)=>(acc,if e.code=11 then .file 7 (G5 J8 id.toNat) else e,d1))=_;rw[h]
theorem a1I{id:Int}{ids:List Int}{d d1:D}{acc:List (List UInt8)}{b:List UInt8}{e:Er}(h:d.whole (G5 J8 id.toNat)=(b,e,d1))(he:e≠.ok):D.opensAcc (id::ids) d acc=(acc,if e.code=11 then .file 7 (G5 J8 id.toNat) else e,d1):=by
 show(match d.whole (G5 J8 id.toNat) with|(b,.ok,d1)=>D.opensAcc ids d1 (acc++[b])|(_,e,d1)=>(acc,if e.code=11 then .file 7 (G5 J8 id.toNat) else e,d1))=_;rw[h]
 cases e with
 | ok=>exact absurd rfl he
 | num n=>rfl
 | file n m=>rfl
structure a2p(d d':D):Prop where
 now:d'.now=d.now
 safe:d'.safe=d.safe
 moves:d'.moves=d.moves
 room:d'.room=d.room
 ids:d'.ids=d.ids
 node:d'.node=d.node
theorem a2p.refl(d:D):a2p d d:=⟨rfl,rfl,rfl,rfl,rfl,rfl⟩
theorem a2p.trans{a b c:D}(h:a2p a b)(k:a2p b c):a2p a c:=⟨k.now.trans h.now,k.safe.trans h.safe,k.moves.trans h.moves,k.room.trans h.room,k.ids.trans h.ids,k.node.trans h.node⟩
theorem Dk.D.fails_same(d:D):a2p d d.fails.2:=let ⟨h1,h2,h3,h4,h5,h6⟩:=d.fails_now;⟨h1,h2,h3,h4,h5,h6⟩
theorem Dk.D.find_same(d:D)(n:Nm):a2p d (d.find n).2.2:=by
 unfold D.find;split
 ·exact d.fails_same
 ·cases F5 d.now n<;>exact d.fails_same
theorem Dk.D.size_same(d:D)(n:Nm):a2p d (d.size n).2.2:=by
 have h:=d.find_same n;unfold D.size;obtain⟨⟨o,e,d1⟩,hr⟩:∃r,d.find n=r:=⟨_,rfl⟩;rw[hr] at h⊢;cases o<;>exact h
theorem Dk.D.readAt_same(d:D)(n:Nm)(i k:Int):a2p d (d.readAt n i k).2.2:=by
 have h:=d.find_same n;unfold D.readAt;obtain⟨⟨o,e,d1⟩,hr⟩:∃r,d.find n=r:=⟨_,rfl⟩;rw[hr] at h⊢;cases o<;>exact h
theorem Dk.D.whole_same(d:D)(n:Nm):a2p d (d.whole n).2.2:=by
 have h:=d.size_same n;unfold D.whole;obtain⟨⟨k,e,d1⟩,hr⟩:∃r,d.size n=r:=⟨_,rfl⟩;rw[hr] at h⊢
 cases e with
 | ok=>exact h.trans (d1.readAt_same n 0 k)
 | num n=>exact h
 | file n m=>exact h
theorem Dk.D.readMan_same(d:D):a2p d d.readMan.2.2:=by
 have h:=d.whole_same H9;unfold D.readMan;obtain⟨⟨k,e,d1⟩,hr⟩:∃r,d.whole H9=r:=⟨_,rfl⟩;rw[hr] at h⊢
 cases e with
 | ok=>dsimp only;cases Go.Proofs.YtgpbhjjajpbeeaaGreatDoor.readMan k<;>exact h
 | num n=>exact h
 | file n m=>exact h
end
section
open Go.RowKit Go.Lib Go.Maps Dk Pl
theorem U6.drewN{w:World}{v:Value}{l:Fl}(h:U6 w v l)(n:Nat):U6 (w.drewN n) v l:=by
 obtain⟨a,cap,rows,rfl,h1,h2,h3,h4,h5⟩:=h;have hE:=Ext.drewN w n;refine⟨a,cap,rows,rfl,h1,h2,h3,fun i p hp=>?_,fun i p q hp hq=>⟨(h5 i p q hp hq).1,(h5 i p q hp hq).2.ext hE⟩⟩;obtain⟨g,hg,c0,c1⟩:=h4 i p hp;exact⟨g,hg,hE.cell c0,hE.cell c1⟩
theorem a9B(v u:Value)(l:Fl)(w:World)(h:U6 w v l)(h':U6 w u l):Calls Tryz.prog 34 #[v,u] w (b9a true w):=by
 have H:=Lib.hid h;have H':=Lib.hid h';obtain⟨a,cap,rows,rfl,hc,hc',hrl,-,-⟩:=h;obtain⟨a2,cap2,rows2,rfl,hd,hd',hrl2,-,-⟩:=h';go_enter Tryz.func34,Tryz.ntmps34
 go_wp2;go_loopw [5] (fun i wr=>∃k:Nat,k<=l.length/\i=.int .i64 k/\∃n,wr=w.drewN n) (fun i _=>l.length - (intOf i).toNat)
 case atStart=>exact⟨0,by omega,rfl,0,rfl⟩
 case round=>
  obtain⟨k,hk,rfl,n,hwn⟩:=hrel;have h1:U6 wr _ l:=hwn▸H.out.drewN n;have h2:U6 wr _ l:=hwn▸H'.out.drewN n;have HWN:=Lib.hid hwn;clear hwn;by_cases hlt:k<l.length
  ·obtain⟨q,hq⟩:∃q,l[k]?=some q:=⟨_,List.getElem?_eq_getElem hlt⟩;obtain⟨a1,c1,r1,e1,-,-,l1,cell1,by1⟩:=h1;injection e1 with e1 _ e2;subst e1;subst e2;obtain⟨a3,c3,r3,e3,-,-,l3,cell3,by3⟩:=h2;injection e3 with e3 _ e4;subst e3;subst e4;obtain⟨p1,hp1⟩:∃p,r1[k]?=some p:=⟨_,List.getElem?_eq_getElem (by omega)⟩;obtain⟨p3,hp3⟩:∃p,r3[k]?=some p:=⟨_,List.getElem?_eq_getElem (by omega)⟩;obtain⟨g1,rfl,x0,x1⟩:=cell1 k p1 hp1;obtain⟨g3,rfl,y0,y1⟩:=cell3 k p3 hp3;obtain⟨n1,b1⟩:=by1 k p1 q hp1 hq;obtain⟨n3,b3⟩:=by3 k p3 q hp3 hq;rw[n1] at x0;rw[n3] at y0;have hb1:∀n,Bytes (wr.drewN n) p1.2 q.2:=fun n=>b1.ext (Ext.drewN wr n);have hb3:∀n,Bytes (wr.drewN n) p3.2 q.2:=fun n=>b3.ext (Ext.drewN wr n);have HB1:=Lib.hid hb1;have HB3:=Lib.hid hb3;clear hb1 hb3 cell1 cell3 by1 by3 b1 b3 n1 n3 hp1 hp3 hq;unfold strV at x0 y0;go_wp2;go_quiet ((refine Calls.quiet_of (v:=.bool (decide (q.2=q.2))) ?_;exact b9c _ _ q.2 q.2 _ (HB1.out _) (HB3.out _)))
   go_wp2;go_quiet (fail)
   go_wp2;go_roundw
   case rel=>exact⟨k+1,by omega,by go_num,_,by rw[HWN.out,drewN_drewN]⟩
   case measure=>simp[intOf];omega
  ·obtain rfl:k=l.length:=by omega
   go_wp2;go_ret;exact⟨rfl,n,HWN.out⟩
end
section
open Go.RowKit Go.Lib Go.Maps Dk Pl
theorem U6.ext{w w':World}{v:Value}{l:Fl}(h:U6 w v l)(hE:Ext w w'):U6 w' v l:=by
 obtain⟨a,cap,rows,rfl,h1,h2,h3,h4,h5⟩:=h;refine⟨a,cap,rows,rfl,h1,h2,h3,fun i p hp=>?_,fun i p q hp hq=>⟨(h5 i p q hp hq).1,(h5 i p q hp hq).2.ext hE⟩⟩;obtain⟨g,hg,c0,c1⟩:=h4 i p hp;exact⟨g,hg,hE.cell c0,hE.cell c1⟩
def c5e(w:World)(b:Nat)(ids:List Int):Prop:=
 ∃(gen:Int)(a:Option Addr)(cap:Nat),o7 w b 50 #[.int .u64 gen,.slice a ids.length cap]/\ids.length<=cap/\cap<=9223372036854775807/\
  ∀(i:Nat)x,ids[i]?=some x->∃g,a=some ⟨g,0,none⟩/\w.cell? ⟨g,i*3,none⟩=some (.int .i64 x)
def b0z(ids:List Int):Prop:=ids.length<=60/\∀x∈ids,1<=x/\x<=999999
end
section
open Go.RowKit Go.Lib Pl
theorem b0v(w:World)(a b:Nat):(w.drewN a).drewN b=w.drewN (a+b):=by
 induction b with
 | zero=>rfl
 | succ b ih=>show((w.drewN a).drewN b).drew=(w.drewN (a+b)).drew;rw[ih]
theorem Ints.at{w w':World}{a:Option Addr}{cap:Nat}{l:List Int}(h:Ints w (.slice a l.length cap) l)(hE:Ext w w'){k:Nat}(hk:k<l.length):∃b,a=some b/\w'.cell? (b.add k)=some (.int .i64 (l[k])):=by
 obtain⟨a',c',e,_,_,hf⟩:=(h.ext hE).open;injection e with e1;subst e1;exact hf k hk
theorem a5K(v:Value)(l:List Int)(w:World)(h:Ints w v l):
 Calls Tryz.prog 77 #[v] w fun e w'=>e=.returned (.bool (a0b l))/\∃n,w'=w.drewN n:=by
 obtain⟨a,cap,rfl,hc,hc',-⟩:=h.open;have HI:=Lib.hid h;clear h;by_cases h60:60<l.length
 ·have hd:a0b l=false:=by unfold a0b;rw[decide_eq_false (by omega)];rfl
  go_enter Tryz.func77,Tryz.ntmps77
  go_wp2;go_ret;exact⟨by first|rfl|(rw[hd];rfl),0,rfl⟩
 have H60:Hid (l.length<=60):=by
  have:l.length<=60:=by omega
  exact this
 go_enter Tryz.func77,Tryz.ntmps77
 go_wp2;go_loopw [3,4] (fun i _ wr=>∃k:Nat,k<=l.length/\i=.int .i64 k/\a4U l k/\∃n,wr=w.drewN n) (fun i _ _=>l.length - (intOf i).toNat)
 case atStart=>exact⟨0,Nat.zero_le _,rfl,⟨rfl,List.nodup_nil⟩,0,rfl⟩
 case round=>
  obtain⟨k,hk,rfl,hg,n,rfl⟩:=hrel;by_cases hlt:k<l.length
  ·obtain⟨b,rfl,hb⟩:=HI.out.at (Ext.drewN w n) hlt;have HG:=Lib.hid hg;clear hg;by_cases h1:l[k]<1
   ·have hf:=a2o (x:=l[k]) hlt rfl (by unfold inRange;rw[decide_eq_false (by omega)];rfl);go_wp2;go_ret;exact⟨by first|rfl|(rw[hf];rfl),n,rfl⟩
   by_cases h2:999999<l[k]
   ·have hf:=a2o (x:=l[k]) hlt rfl (by unfold inRange;rw[decide_eq_false (show ¬l[k]<=999999 by omega)];simp);go_wp2;go_ret;exact⟨by first|rfl|(rw[hf];rfl),n,rfl⟩
   go_wp2;go_loopw [4] (fun j wr=>∃m:Nat,m<=k/\j=.int .i64 m/\l[k]∉l.take m/\∃n,wr=w.drewN n) (fun j _=>k - (intOf j).toNat)
   case atStart=>exact⟨0,Nat.zero_le _,rfl,by simp,n,rfl⟩
   case round=>
    obtain⟨m,hm,rfl,hne,n',rfl⟩:=hrel;by_cases hmk:m<k
    ·obtain⟨b',eb,hb1⟩:=HI.out.at (Ext.drewN w n') (k:=m) (by omega);injection eb with eb;subst eb;obtain⟨b',eb,hb2⟩:=HI.out.at (Ext.drewN w n') hlt;injection eb with eb;subst eb;have HN:=Lib.hid hne;clear hne;clear hb;generalize hwn:w.drewN n'=wn at *;have hml:m<l.length:=by omega
     by_cases he:l[m]=l[k]
     ·have he':((l[m]:Int)==l[k])=true:=beq_iff_eq.2 he;have hf:=b0c (x:=l[k]) hlt rfl (by rw[<-he];exact List.mem_take_iff_getElem.2 ⟨m,by omega,rfl⟩);clear he;go_wp2;go_quiet (fail)
      go_wp2;go_ret;exact⟨by first|rfl|(rw[hf];rfl),n'+nq,by rw[<-hwn,b0v]⟩
     ·have he':((l[m]:Int)==l[k])=false:=beq_eq_false_iff_ne.2 he;have HM:Hid (l[k]∉l.take (m+1)):=by
       have:l[k]∉l.take (m+1):=by
        rw[take_snoc l m hml,List.mem_append];rintro(h|h)
        ·exact HN.out h
        ·simp at h;exact he h.symm
       exact this
      clear he;go_wp2;go_quiet (fail)
      go_wp2;go_roundw
      case rel=>exact⟨m+1,by omega,by go_num,HM.out,n'+nq,by rw[<-hwn,b0v]⟩
      case measure=>simp[intOf];omega
    ·obtain rfl:m=k:=by omega
     have HN:=Lib.hid hne;clear hne;go_wp2;go_roundw
     case rel=>exact⟨m+1,by omega,by go_num,a6P HG.out hlt rfl (by unfold inRange;rw[decide_eq_true (show 1<=l[m] by omega),decide_eq_true (show l[m]<=999999 by omega)];rfl) HN.out,n',rfl⟩
     case measure=>simp[intOf];omega
  ·go_wp2;go_ret;obtain rfl:k=l.length:=by omega
   unfold a4U at hg;rw[List.take_length] at hg;refine⟨?_,n,rfl⟩;unfold a0b;rw[hg.1,decide_eq_true hg.2,decide_eq_true H60.out];rfl
end
end Go.Proofs.YtgpbhjjajpbeeaaGreatDoor
