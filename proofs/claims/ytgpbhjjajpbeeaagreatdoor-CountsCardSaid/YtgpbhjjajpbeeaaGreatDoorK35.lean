/- A part of what the last file proves. -/
import Derived.Test.YtgpbhjjajpbeeaaGreatDoorK34
import Derived.Test.YtgpbhjjajpbeeaaGreatDoorCards
import Derived.Test.YtgpbhjjajpbeeaaGreatDoorTie
import Derived.ProofKit
import Derived.OpenShut
import Derived.Deep.DeepHandedRow
import Derived.Deep.DeepLaidRun
import Derived.Deep.Slices
import Derived.WideKeyArgs
import Derived.LaidLaws
import Derived.LaidHandle
import Derived.Leaving
import Derived.Conc.Holds
import Derived.Lib.LaidTab
import Derived.Lib.SmallJoins
import Derived.SizedLaws
set_option linter.all false
set_option maxRecDepth 100000
set_option maxHeartbeats 1000000
namespace Go.Nm
section
open Zn (MarkOK)
open Go.Extern Go.Extern.Rtype
set_option linter.unusedVariables false
section
variable{P:Program}
theorem a3Q(a:String)(t:TypeId):Mf P (noPack a t):=by
 try unfold noPack
 repeat' first|assumption|with_reducible (first|refine K6 _ ?_|exact j5 _|refine F9 ?_|refine z8 _ ?_ ?_)|split|dsimp only|exact trivial
theorem a8u(a:String)(t:TypeId):Mf P (noPackNamed a t):=by
 try unfold noPackNamed
 repeat' first|assumption|with_reducible (first|refine K6 _ ?_|exact j5 _|refine F9 ?_|refine z8 _ ?_ ?_)|split|dsimp only|exact trivial
theorem a0M(a:String)(t:TypeId):Mf P (noPackMethods a t):=by
 try unfold noPackMethods
 repeat' first|assumption|with_reducible (first|refine K6 _ ?_|exact j5 _|refine F9 ?_|refine z8 _ ?_ ?_)|split|dsimp only|exact trivial
theorem b2E(t:TypeId):Mf P (spelt t):=by
 try unfold spelt
 repeat' first|assumption|with_reducible (first|exact a1A _|exact a8u _ _|refine j4 ?_ fun _=>?_)|split|dsimp only|exact trivial
theorem a5i(t:TypeId):Mf P (under t):=by
 try unfold under
 repeat' first|assumption|with_reducible (first|exact j5 _|exact G8 _|refine j4 ?_ fun _=>?_)|split|dsimp only|exact trivial
theorem a7C(t:TypeId):Mf P (kind t):=by
 try unfold kind
 repeat' first|assumption|with_reducible (first|exact l9 _|exact j5 _|exact a5i _|refine j4 ?_ fun _=>?_)|split|dsimp only|exact trivial
theorem b4n(t:TypeId):Mf P (hasName t):=by
 try unfold hasName
 repeat' first|assumption|with_reducible (first|exact j5 _|exact G8 _|refine j4 ?_ fun _=>?_)|split|dsimp only|exact trivial
theorem b2F(t:TypeId):Mf P (elem? t):=by
 first|unfold elem?|skip
 repeat' first|assumption|with_reducible (first|exact j5 _|exact a5i _|refine j4 ?_ fun _=>?_)|split|dsimp only|exact trivial
theorem a15(t v:TypeId):Mf P (implements t v):=by
 try unfold implements
 repeat' first|assumption|with_reducible (first|exact j5 _|exact G8 _|exact a0M _ _|exact a5i _|refine j4 ?_ fun _=>?_)|split|dsimp only|exact trivial
theorem a6I(t v:TypeId):Mf P (directlyAssignable t v):=by
 try unfold directlyAssignable
 repeat' first|assumption|with_reducible (first|exact j5 _|exact a5i _|exact b4n _|refine j4 ?_ fun _=>?_|refine z8 _ ?_ ?_)|split|dsimp only|exact trivial
theorem a3A(h:Value):Mf P (ofHandle h):=by
 try unfold ofHandle
 repeat' first|assumption|with_reducible (first|exact l9 _|exact j5 _|refine F9 ?_)|split|dsimp only|exact trivial
theorem b0a(t:TypeId):Mf P (handle t):=by
 try unfold handle
 repeat' first|assumption|with_reducible (first|exact j5 _|refine F9 ?_)|split|dsimp only|exact trivial
theorem a8v(n:String):Mf P (cutType n):=by
 try unfold cutType
 repeat' first|assumption|with_reducible (first|exact l9 _|exact j5 _|refine F9 ?_)|split|dsimp only|exact trivial
theorem a6f(t:TypeId):Mf P (ReflectliteType.toType t):=by
 try unfold ReflectliteType.toType
 repeat' first|assumption|with_reducible (first|exact j5 _|exact b0a _|exact a8v _|refine j4 ?_ fun _=>?_)|split|dsimp only|exact trivial
theorem b7p{args:Array Value}:Mf P (ReflectliteType.typeOf args):=by
 obtain⟨l⟩:=args;rcases l with _|⟨x,_|⟨y,l⟩⟩
 ·exact trivial
 ·cases x<;>first|exact a6f _|exact trivial
 ·cases x<;>exact trivial
theorem a4E(v:Value):Mf P (ReflectliteType.ofRtype v):=by
 cases v<;>first|exact trivial|skip
 rename_i c;obtain⟨l⟩:=c;rcases l with _|⟨x,_|⟨y,l⟩⟩
 ·exact trivial
 ·exact j4 (a3A _) fun _=>j4 (a3Q _ _) fun _=>trivial
 ·exact trivial
theorem b7q{f:TypeId->Sem Value}(hf:∀t,Mf P (f t))(args:Array Value):Mf P (ReflectliteType.method f args):=by
 obtain⟨l⟩:=args;rcases l with _|⟨x,_|⟨y,l⟩⟩
 ·exact trivial
 ·exact j4 (a4E _) fun t=>hf t
 ·exact trivial
theorem a6J{a:String}{f:TypeId->TypeId->Sem Bool}(hf:∀t u,Mf P (f t u))(args:Array Value):Mf P (ReflectliteType.relation a f args):=by
 obtain⟨l⟩:=args;rcases l with _|⟨x,_|⟨y,_|⟨z,l⟩⟩⟩
 ·exact trivial
 ·exact trivial
 ·cases y<;>first
   | exact j4 (a4E _) fun _=>j4 (a4E _) fun _=>j4 (hf _ _) fun _=>trivial
   | (unfold ReflectliteType.relation panicString;repeat' first|exact trivial|(with_reducible refine F9 ?_)|(with_reducible refine j4 ?_ fun _=>?_))
   | exact trivial
 ·cases y<;>exact trivial
theorem b1h{f:TypeId->Sem Value}(hf:∀t,Mf P (f t))(args:Array Value):Mf P (ReflectliteType.abiMethod f args):=by
 obtain⟨l⟩:=args;rcases l with _|⟨x,_|⟨y,l⟩⟩
 ·exact trivial
 ·exact j4 (a3A _) fun t=>j4 (a3Q _ _) fun _=>hf t
 ·exact trivial
theorem a1C{α:Type}(s:String):Mf P (panicString s:Sem α):=by
 try unfold panicString
 repeat' first|assumption|with_reducible (first|exact a4A _|refine F9 ?_)|split|dsimp only|exact trivial
theorem b9V(t:TypeId):Mf P (ReflectliteType.elem t):=by
 try unfold ReflectliteType.elem
 repeat' first|assumption|with_reducible (first|exact b2E _|exact b2F _|exact a6f _|exact a1C _|refine j4 ?_ fun _=>?_)|split|dsimp only|exact trivial
theorem a8w(u t:TypeId):Mf P (ReflectliteType.implements_ u t):=by
 try unfold ReflectliteType.implements_
 repeat' first|assumption|with_reducible (first|exact a3Q _ _|exact a0M _ _|exact a7C _|exact a15 _ _|exact a1C _|refine j4 ?_ fun _=>?_|refine z8 _ ?_ ?_)|split|dsimp only|exact trivial
theorem a7n(u t:TypeId):Mf P (ReflectliteType.assignableTo u t):=by
 try unfold ReflectliteType.assignableTo
 repeat' first|assumption|with_reducible (first|exact j5 _|exact a0M _ _|exact a15 _ _|exact a6I _ _|refine j4 ?_ fun _=>?_|refine z8 _ ?_ ?_)|split|dsimp only|exact trivial
theorem c2E(t:TypeId){a:Addr}(fl:Nat):Mf P (ReflectliteValue.mk t a fl):=by
 try unfold ReflectliteValue.mk
 repeat' first|assumption|with_reducible (first|exact j5 _|exact a7C _|exact b0a _|refine j4 ?_ fun _=>?_)|split|dsimp only|exact trivial
theorem b0b{v:Value}:Mf P (ReflectliteValue.unpack v):=by
 try unfold ReflectliteValue.unpack
 repeat' first|assumption|with_reducible (first|exact l9 _|exact j5 _|exact a1p _|exact c2E _ _|refine j4 ?_ fun _=>?_)|split|dsimp only|exact trivial
theorem Z0{α:Type}(m:String)(k:Nat):Mf P (ReflectliteValue.valueError m k:Sem α):=by
 try unfold ReflectliteValue.valueError
 repeat' first|assumption|with_reducible (first|exact a4A _|exact a5W _|exact a1p _|exact a8v _|refine j4 ?_ fun _=>?_)|split|dsimp only|exact trivial
theorem a6K{v:Value}:Mf P (ReflectliteValue.partsAny v):=by
 have key:∀(hd:Value)(a:Addr)(f:Nat),Mf P (do pure (some (<-ofHandle hd,a,f)):Sem (Option (TypeId×Addr×Nat))):=fun hd a f=>j4 (a3A _) fun _=>trivial;cases v<;>first|exact trivial|skip
 rename_i c;obtain⟨l⟩:=c;rcases l with _|⟨x,_|⟨y,_|⟨z,_|⟨u,l⟩⟩⟩⟩
 ·exact trivial
 ·exact trivial
 ·exact trivial
 ·cases z<;>first|exact trivial|skip
  rename_i k n;cases k<;>first|exact trivial|skip
  cases n with
  | ofNat n=>
   cases n with
   | zero=>exact trivial
   | succ n=>
    cases y<;>first|exact trivial|skip
    rename_i p
    cases p with
    | none=>exact trivial
    | some a=>exact key x a (n+1)
  | negSucc n=>
   cases y<;>first|exact trivial|skip
   rename_i p
   cases p with
   | none=>exact trivial
   | some a=>exact key x a _
 ·cases z<;>exact trivial
theorem a5j{v:Value}:Mf P (ReflectliteValue.parts v):=by
 try unfold ReflectliteValue.parts
 repeat' first|assumption|with_reducible (first|exact j5 _|exact a3Q _ _|exact a6K|refine j4 ?_ fun _=>?_)|split|dsimp only|exact trivial
theorem b7r(t:TypeId){a:Addr}(fl k:Nat):Mf P (ReflectliteValue.isNil t a fl k):=by
 try unfold ReflectliteValue.isNil
 repeat' first|assumption|with_reducible (first|exact j5 _|exact a0e _|exact Z0 _ _|refine j4 ?_ fun _=>?_|refine z8 _ ?_ ?_)|split|dsimp only|exact trivial
theorem b9W(t:TypeId){a:Addr}(fl k:Nat):Mf P (ReflectliteValue.elem t a fl k):=by
 try unfold ReflectliteValue.elem
 repeat' first|assumption|with_reducible (first|exact j5 _|exact a0e _|exact b2F _|exact c2E _ _|exact b0b|exact Z0 _ _|refine j4 ?_ fun _=>?_|refine z8 _ ?_ ?_)|split|dsimp only|exact trivial
theorem c3K{args:Array Value}:Mf P (ReflectliteValue.set args):=by
 obtain⟨l⟩:=args;rcases l with _|⟨x,_|⟨y,_|⟨z,l⟩⟩⟩
 ·exact trivial
 ·exact trivial
 ·unfold ReflectliteValue.set;refine j4 a5j fun o=>j4 a5j fun o'=>?_
  cases o with
  | none=>exact trivial
  | some o=>
   cases o' with
   | none=>exact trivial
   | some o'=>
    obtain⟨dst,a,fl⟩:=o;obtain⟨src,b,fl'⟩:=o';dsimp only;repeat' first|assumption|with_reducible (first|refine K6 _ ?_|exact j5 _|exact a0e _|exact a6A _|exact b2E _|exact a7C _|exact a15 _ _|exact a6I _ _|exact a1C _|exact a5j|refine j4 ?_ fun _=>?_|refine z8 _ ?_ ?_)|split|dsimp only|exact trivial
 ·exact trivial
end
end
end Go.Nm
namespace Go.Nm
open Go.Extern Go.Extern.Rtype
variable{P:Program}
theorem a4B{zero:Sem Value}{f:TypeId->Addr->Nat->Nat->Sem Value}(hz:Mf P zero)(hf:∀t a fl k,Mf P (f t a fl k)){args:Array Value}:Mf P (ReflectliteValue.method zero f args):=by
 obtain⟨l⟩:=args;rcases l with _|⟨x,_|⟨y,l⟩⟩
 ·exact trivial
 ·refine j4 a5j fun o=>?_
  cases o with
  | none=>exact hz
  | some o=>obtain⟨t,a,fl⟩:=o;exact hf _ _ _ _
 ·exact trivial
theorem a9c{zero:Sem Value}{f:TypeId->Addr->Nat->Nat->Sem Value}(hz:Mf P zero)(hf:∀t a fl k,Mf P (f t a fl k)){args:Array Value}:Mf P (ReflectliteValue.methodAny zero f args):=by
 obtain⟨l⟩:=args;rcases l with _|⟨x,_|⟨y,l⟩⟩
 ·exact trivial
 ·refine j4 a6K fun o=>?_
  cases o with
  | none=>exact hz
  | some o=>obtain⟨t,a,fl⟩:=o;exact hf _ _ _ _
 ·exact trivial
structure DB where
 F:FuncId->Bool
 N:String->Bool
def DB.disc(B:DB):Disc:={F:=fun f=>B.F f=true,N:=fun n=>B.N n=true}
variable(B:DB)
def b5z:Callee->Bool
 | .value (.func f)=>B.F f
 | .invoke _ n=>B.N n
 | .builtin b=>bN b
 | _=>false
def opB:Op->Bool
 | .call c=>b5z B c.callee
 | .go _|.defer _|.send .. | .recv .. | .select .. | .makeChan .. | .ready _|.waits _|.mapEntry .. | .entryStore .. | .sliceToArrayPointer ..=>false
 | _=>true
def codeB:Code->Bool
 | .seq a b=>codeB a&&codeB b
 | .cond _ a b=>codeB a&&codeB b
 | .block _ b=>codeB b
 | .loop b=>codeB b
 | .scope b=>codeB b
 | .region _ ops _=>ops.toList.all fun o=>opB B o.op
 | .rangeFunc ..=>false
 | _=>true
variable{B}
theorem opB.sound{o:Op}(h:opB B o=true):OpN B.disc o:=by
 cases o<;>first|trivial|(cases h;done)|skip
 rename_i c;show b1j B.disc c.callee;have h2:b5z B c.callee=true:=h
 cases hc:c.callee with
 | value x=>
  rw[hc] at h2
  cases x<;>first|exact h2|cases h2
 | _=>rw[hc] at h2;exact h2
theorem codeB.sound:∀{c:Code},codeB B c=true->CodeN B.disc c:=by
 intro c
 induction c with
 | seq a b iha ihb=>intro h;simp only[codeB,Bool.and_eq_true] at h;exact⟨iha h.1,ihb h.2⟩
 | cond x a b iha ihb=>intro h;simp only[codeB,Bool.and_eq_true] at h;exact⟨iha h.1,ihb h.2⟩
 | block id b ih=>intro h;exact ih h
 | loop b ih=>intro h;exact ih h
 | scope b ih=>intro h;exact ih h
 | region id ops d=>intro h;exact fun o ho=>opB.sound (List.all_eq_true.1 h o (by simpa using ho))
 | rangeFunc f p a b iha ihb=>intro h;cases h
 | _=>intro _;trivial
end Go.Nm
namespace Go.Proofs.YtgpbhjjajpbeeaaGreatDoor
open Go.RowKit Go.Nm Go.Extern
def lOf:List Nat:=[12,13,15,20,46,47,48,49,50,51,52,53,65,76,77,80,89,90,91,92,93,97,119,120,121,122,124,148,162,163,247,248,253,255,259,261,262]
def db:DB:={F:=fun f=>lOf.contains f,N:=fun n=>["Kind","Elem","Implements","As","Unwrap","AssignableTo"].contains n}
noncomputable def a5d(f:Nat):Bool:=match Tryz.prog.funcs[f]? with
 | some fn=>(fn.name != "runtime.NumGoroutine")&&(match fn.body with|some c=>codeB db c|none=>[97,119,120,121,162,163,247,248,255,259,261,262].contains f)
 | none=>true
theorem c3D:lOf.all a5d=true:=by kernel_rfl
theorem c3E:Tryz.prog.types.toList.all (fun i=>i.methods.toList.all fun m=>!db.N m.name||(match m.func with|some (f,_)=>db.F f|none=>true))=true:=by kernel_rfl
end Go.Proofs.YtgpbhjjajpbeeaaGreatDoor
namespace Go.Proofs.YtgpbhjjajpbeeaaGreatDoor
section
open Go.RowKit Go.Nm Go.Extern
theorem b38:Tryz.prog.funcs.toList.all (fun f=>match f.body with|some c=>(readies c).all fun g=>decide (g<7)|none=>true)=true:=by kernel_rfl
theorem b39(g:Nat)(hg:Tryz.prog.globals.size<=g):Tryz.prog.stepOf g=none:=by
 rw[globals_size] at hg;unfold Program.stepOf;rw[Array.findIdx?_eq_none_iff];intro f hf;have:=List.all_eq_true.1 b38 f (by simpa using hf)
 cases hb:f.body with
 | none=>rfl
 | some c=>
  rw[hb] at this;dsimp only at this;simp only[Option.map_some,Option.any_some]
  cases hc:(readies c).contains g with
  | false=>rfl
  | true=>
   exfalso;have h1:=List.all_eq_true.1 this g (by simpa using hc);have:=of_decide_eq_true h1;omega
theorem a8m{fn:Func}{x:Array Value->Sem Value}(hn:Extern.findNext fn=none)(hf:Extern.find fn=some x)(hx:∀args,Mf Tryz.prog (x args)):Extern.findNext fn=none/\∀e args,Extern.find fn=some e->Mf Tryz.prog (e args):=
 ⟨hn,fun e args h=>(Option.some.inj (hf.symm.trans h))▸hx args⟩
theorem b7d{fn:Func}(hn:Extern.findNext fn=none)(hf:Extern.find fn=none):Extern.findNext fn=none/\∀e args,Extern.find fn=some e->Mf Tryz.prog (e args):=⟨hn,fun e args h=>absurd h (by rw[hf];simp)⟩
theorem c4I:∀f∈[97,119,120,121,162,163,247,248,255,259,261,262],∀fn,Tryz.prog.funcs[f]?=some fn->Extern.findNext fn=none/\∀e args,Extern.find fn=some e->Mf Tryz.prog (e args):=by
 intro f hf fn hfn;simp only[List.mem_cons,List.not_mem_nil,or_false] at hf;rcases hf with rfl|rfl|rfl|rfl|rfl|rfl|rfl|rfl|rfl|rfl|rfl|rfl
 ·obtain rfl:=Option.some.inj (Tryz.func97.symm.trans hfn);exact a8m (x:=ReflectliteType.typeOf) (by kernel_rfl) (by kernel_rfl) fun args=>b7p
 ·obtain rfl:=Option.some.inj (Tryz.func119.symm.trans hfn);exact a8m (x:=fun args=>ReflectliteValue.unpack (args.getD 0 (.tuple #[]))) (by kernel_rfl) (by kernel_rfl) fun args=>b0b
 ·obtain rfl:=Option.some.inj (Tryz.func120.symm.trans hfn);exact a8m (x:=ReflectliteValue.methodAny (ReflectliteValue.valueError "reflectlite.Value.Type" 0) fun t _ _ _=>ReflectliteType.toType t) (by kernel_rfl) (by kernel_rfl) fun args=>a9c (Z0 _ _) fun t _ _ _=>a6f t
 ·obtain rfl:=Option.some.inj (Tryz.func121.symm.trans hfn);exact a8m (x:=ReflectliteValue.method (ReflectliteValue.valueError "reflectlite.Value.IsNil" 0) ReflectliteValue.isNil) (by kernel_rfl) (by kernel_rfl) fun args=>a4B (Z0 _ _) fun t a fl k=>b7r t fl k
 ·obtain rfl:=Option.some.inj (Tryz.func162.symm.trans hfn);exact a8m (x:=ReflectliteValue.method (ReflectliteValue.valueError "reflectlite.Value.Elem" 0) ReflectliteValue.elem) (by kernel_rfl) (by kernel_rfl) fun args=>a4B (Z0 _ _) fun t a fl k=>b9W t fl k
 ·obtain rfl:=Option.some.inj (Tryz.func163.symm.trans hfn);exact a8m (x:=ReflectliteValue.set) (by kernel_rfl) (by kernel_rfl) fun args=>c3K
 ·obtain rfl:=Option.some.inj (Tryz.func247.symm.trans hfn);exact b7d (by kernel_rfl) (by kernel_rfl)
 ·obtain rfl:=Option.some.inj (Tryz.func248.symm.trans hfn);exact a8m (x:=ReflectliteType.abiMethod fun t=>do pure (.int .u8 (<-Rtype.kind t))) (by kernel_rfl) (by kernel_rfl) fun args=>b1h (f:=fun t=>do pure (.int .u8 (<-Rtype.kind t))) (fun t=>j4 (a7C t) fun _=>j5 _) args
 ·obtain rfl:=Option.some.inj (Tryz.func255.symm.trans hfn);exact a8m (x:=ReflectliteValue.method (pure (.int .u8 0)) fun _ _ _ k=>pure (.int .u8 (Int.ofNat k))) (by kernel_rfl) (by kernel_rfl) fun args=>a4B (zero:=pure (.int .u8 0)) (f:=fun _ _ _ k=>pure (.int .u8 (Int.ofNat k))) (j5 _) fun _ _ _ _=>j5 _
 ·obtain rfl:=Option.some.inj (Tryz.func259.symm.trans hfn);exact a8m (x:=ReflectliteType.relation "AssignableTo" ReflectliteType.assignableTo) (by kernel_rfl) (by kernel_rfl) fun args=>a6J (fun t u=>a7n t u) args
 ·obtain rfl:=Option.some.inj (Tryz.func261.symm.trans hfn);exact a8m (x:=ReflectliteType.method ReflectliteType.elem) (by kernel_rfl) (by kernel_rfl) fun args=>b7q (fun t=>b9V t) args
 ·obtain rfl:=Option.some.inj (Tryz.func262.symm.trans hfn);exact a8m (x:=ReflectliteType.relation "Implements" ReflectliteType.implements_) (by kernel_rfl) (by kernel_rfl) fun args=>a6J (fun t u=>a8w t u) args
theorem b7e:∀(t:Nat)(i:TypeInfo),Tryz.prog.types[t]?=some i->Zn.ZOK zone i:=fun t i hi z hzz=>by
 have h1:=List.all_eq_true.1 types i (by rw[<-Array.getElem?_toList] at hi;exact List.mem_of_getElem? hi);unfold typeAt at h1;simp only[Bool.and_eq_true] at h1;rw[hzz] at h1;exact Zn.vOK.sound _ _ h1.1
theorem pnc:PNC db.disc Tryz.prog:=by
 have at_:∀f fn,db.disc.F f->Tryz.prog.funcs[f]?=some fn->a5d f=true:=fun f fn hf _=>List.all_eq_true.1 c3D f (by simpa [DB.disc,db] using hf);refine⟨⟨fun t i hi m hm hN f p hf=>?_,fun f fn hf hfn=>?_,fun f fn hf hfn hb=>?_⟩,b39,fun f fn c hf hfn hb=>?_⟩
 ·rcases Nat.lt_or_ge t Tryz.prog.types.size with ht|ht
  ·have h1:=List.all_eq_true.1 c3E i (by have:=Zn.info_old ht hi;rw[<-Array.getElem?_toList] at this;exact List.mem_of_getElem? this);have h2:=List.all_eq_true.1 h1 m (by simpa using hm);rw[hf,show db.N m.name=true from hN] at h2;exact(by simpa using h2:db.F f=true)
  ·rw[(Zn.info_ok (Z:=zone) b7e hi).2 ht] at hm;simp at hm
 ·have h1:=at_ f fn hf hfn;unfold a5d at h1;rw[hfn] at h1;simp only[Bool.and_eq_true] at h1;simpa using h1.1
 ·have h1:=at_ f fn hf hfn;unfold a5d at h1;rw[hfn] at h1;simp only[Bool.and_eq_true,hb] at h1;exact c4I f (by simpa using h1.2) fn hfn
 ·have h1:=at_ f fn hf hfn;unfold a5d at h1;rw[hfn] at h1;simp only[Bool.and_eq_true,hb] at h1;exact codeB.sound h1.2
end
section
open Go.RowKit Go.Nm
theorem b08:(List.range 7).all (fun g=>(((begin Tryz.prog (fun _ _=>0) default).world.heap[g]?).bind Obj.row?).isSome)=true:=by kernel_rfl
theorem a8n{W:World}(h:W.ShapedOpen Tryz.prog):∀g,g<Tryz.prog.globals.size->IsRow W g:=by
 intro g hg;have hg':g<7:=by rw[globals_size] at hg;exact hg
 have h1:=List.all_eq_true.1 b08 g (List.mem_range.2 hg');obtain⟨⟨zero,t⟩,h2⟩:=Option.isSome_iff_exists.1 h1;obtain⟨cs,h3,-⟩:=h.1 g zero t hg h2;exact⟨cs,t,_,h3⟩
end
section
open Go.ChangeShapes Go.WideShapes Go.ChangeAt Go.RowKit Go.Joins Go.Lib Pl
namespace zpost
theorem card_goes{p:Pinned}{s:OpenSpec}{c:OpenClaim}(kinds:List LaidKind)(har:Bool×String)(lk:Bool)
 (hc:c.holds p s)(hw:c.wfByText s=true)(htie:c.laidByTextAt .later p kinds true)
 (hst:c.start=.entering)(hnb:c.noBlocks=false/\c.again=false)(hm:p.checked.prog.mainIs=some (har.1,har.2.toList))(hn:(!har.1&&har.2.isEmpty&&!lk)=false)
 (hl:∀f fn,p.checked.prog.funcNamed c.func=some f->p.checked.prog.funcs[f]?=some fn->lk=p.checked.prog.looks []/\∀(j:Nat)t,fn.params[j]?=some t->p.checked.prog.wantsStandIn t=false)
 (hg:true=c.goesBy p.checked.prog):
 Claim7.holds p (.plain s) {stood:={row:=c,standIns:=[],harness:=har,looks:=lk},kinds:=[],alts:=[],goes:=true,laidByText:=true,laidKinds:=kinds,laidTests:=true,laidLooks:=.later}:=by
 have h6:Claim7.isSixth {stood:={row:=c,standIns:=[],harness:=har,looks:=lk},kinds:=[]} = false:=by simpa [Claim7.isSixth] using hn
 refine⟨?_,(fun D hD=>by cases hD),htie,(fun h=>by cases h),hg⟩;exact Claim7.tied_new_at .later kinds true (Claim7.new_of_sixth hc har lk hst hnb hm h6 hl) hw
theorem own:ownKnob Tryz.prog.godebug=none:=by kernel_rfl
theorem et:Tryz.prog.globalNamed "errors.errorType" = some 0:=by kernel_rfl
theorem rt:(Tryz.prog.cutTypes.find? (·.1== "internal/reflectlite.rtype")).map (·.2)=some 275:=by kernel_rfl
theorem oneRow:((List.range 395).filter fun t=>Tryz.prog.rowNamed t [101,114,114,111,114])=[34]:=by kernel_rfl
theorem size:Tryz.prog.types.size=395:=by kernel_rfl
theorem handle:typeHandle Tryz.prog 34=.pointer (some ⟨7,34,none⟩):=by kernel_rfl
theorem g10:Tryz.prog.globalNamed "internal/strconv.uint64pow10" = some 1:=by kernel_rfl
theorem ty10:(Tryz.prog.globals[1]?).map (·.type)=some 353:=by kernel_rfl
def c5e:Lit->Value
 | .int k n=>.int k n
 | _=>.nilIface
def lv:DataW Unit->Value
 | .lit l=>c5e l
 | _=>.nilIface
def c5f:DataW Unit->List Value
 | .agg xs=>xs.map lv
 | x=>[lv x]
def c0v:DataW Unit->List Value
 | .agg xs=>xs.flatMap c5f
 | x=>[lv x]
def put(cs:List Value):Obj->Obj
 | .cells _ t frozen=>.cells cs.toArray t frozen
 | o=>o
noncomputable def laidWorld(os:Os)(args:Array Value):World:=
 {World.holding Tryz.prog os ⟨#[],args,[]⟩ with heap:=(((((((World.holding Tryz.prog os ⟨#[],args,[]⟩).heap.modify 0 (put [.iface 275 (.agg #[.pointer (some ⟨7,34,none⟩)])])).modify 5 (put (c0v Rows.laid_math_bits_deBruijn32tab))).modify 6 (put (c0v Rows.laid_math_bits_deBruijn64tab))).modify 1 (put (c0v Rows.laid_internal_strconv_uint64pow10))).modify 4 (put (c0v Rows.laid_unicode_utf8_acceptRanges))).modify 3 (put (c0v Rows.laid_unicode_utf8_first)))}
variable{H:Type}{enc:TypeId×Value->H}{P:Program}
end zpost
end
section
open Go.RowKit Go.Lib Go.Maps Dk
open Zn (VP ObjP Zf WPs Zone Le)
def Core(a m1 m2:Nat)(mv:Value)(gs:List Nat)(dv:Nat->Value)(ids:List Nat)(b:Nat):Prop:=
 b=a\/b=m1\/b=m2\/b∈gs\/mv.ownBlock=some b\/∃x∈ids,b=x\/(dv x).ownBlock=some b
section
variable{w:World}{F:Nat->Prop}{a m1 m2:Nat}{mv:Value}{gs:List Nat}{dv:Nat->Value}{d:D}
theorem DiskRep.core_sub(h:DiskRep w F a m1 m2 mv gs dv d){b:Nat}(hb:Core a m1 m2 mv gs dv d.ids b):F b:=by
 rcases hb with rfl|rfl|rfl|hb|hb|⟨x,hx,rfl|hb⟩
 ·exact h.fa
 ·exact h.fm.1
 ·exact h.fm.2
 ·exact h.fg b hb
 ·exact h.fo b hb
 ·exact(h.fx _ hx).1
 ·exact(h.fx x hx).2 b hb
theorem b8N{Z:Zone}{B:Nat}{e:TypeId}{size:Nat}{v:Value}{n:Nat}{xs:List Value}(h:w.ownsRow B e size v n xs)(hD:∀b,v.ownBlock=some b->Z.D b):VP Z v:=by
 rcases h.2 with⟨rfl,_⟩|⟨g,cap,cur,rfl,_⟩
 ·exact .snil _ _
 ·exact .slice _ _ _ (hD g rfl)
theorem c3g{Z:Zone}{o:Option Nat}(h:∀x,o=some x->Z.D x):VP Z (a4w o):=by
 cases o with
 | none=>exact .pnil
 | some x=>exact .ptr _ (h x rfl)
theorem b1Z{Z:Zone}{r:Nat}{l:List (Nm×Nat)}(h:a3b w r l)(hl:∀p∈l,Z.D p.2){o:Obj}(ho:w.heap[r]?=some o):ObjP Z o:=by
 obtain⟨es,clock,h1,h2,-⟩:=h;rw[h1] at ho;injection ho with ho;subst ho;refine .map _ _ fun e he=>?_;have hm:(e.key,e.val)∈l.map fun p=>(strV p.1,l7 p.2):=by rw[<-h2];exact List.mem_map_of_mem (by simpa using he)
 obtain⟨p,hp,e1⟩:=List.mem_map.1 hm;injection e1 with e1 e2;rw[<-e1,<-e2];exact⟨.string _,.ptr _ (hl p hp)⟩
theorem DiskRep.core_obj(h:DiskRep w F a m1 m2 mv gs dv d){Z:Zone}(hZ:∀b,Core a m1 m2 mv gs dv d.ids b->Z.D b){b:Nat}(hb:Core a m1 m2 mv gs dv d.ids b){o:Obj}(ho:w.heap[b]?=some o):ObjP Z o:=by
 have hx:∀x∈d.ids,Z.D x:=fun x hx=>hZ x (.inr (.inr (.inr (.inr (.inr ⟨x,hx,.inl rfl⟩)))));have hg:∀g∈gs,Z.D g:=fun g hg=>hZ g (.inr (.inr (.inr (.inl hg))));rcases hb with rfl|rfl|rfl|hb|hb|⟨x,hxi,rfl|hb⟩
 ·have hbx:=h.box;unfold j6 at hbx;rw[hbx] at ho;injection ho with ho;subst ho;refine .cells _ _ _ fun v hv=>?_;simp at hv;rcases hv with rfl|rfl|rfl|rfl|rfl|rfl
  ·exact .map _ (hZ _ (.inr (.inl rfl)))
  ·exact .map _ (hZ _ (.inr (.inr (.inl rfl))))
  ·exact b8N h.outer fun b hb=>hZ b (.inr (.inr (.inr (.inr (.inl hb)))))
  ·exact .int _ _
  ·exact .int _ _
  ·exact .int _ _
 ·exact b1Z h.now (fun p hp=>hx _ (h.wf.now p hp)) ho
 ·exact b1Z h.safe (fun p hp=>hx _ (h.wf.safe p hp)) ho
 ·obtain⟨i,hi⟩:=List.mem_iff_getElem?.1 hb;have hil:i<d.moves.length:=by
   have:=(List.getElem?_eq_some_iff.1 hi).1;rw[<-h.rows.1];exact this
  have hl:d.moves[i]?=some d.moves[i]:=List.getElem?_eq_getElem hil;have hr:=h.rows.2 i b _ hi hl;unfold Y5 j6 at hr;rw[hr] at ho;injection ho with ho;subst ho;refine .cells _ _ _ fun v hv=>?_;have hv':v∈(d.moves[i]).flatMap moveCells:=by simpa using hv
  obtain⟨m,hm,hv'⟩:=List.mem_flatMap.1 hv';have hv2:v=strV m.1\/v=a4w m.2:=by simpa [moveCells] using hv'
  rcases hv2 with rfl|rfl
  ·exact .string _
  ·exact c3g fun f hf=>hx f (h.wf.moves _ (List.mem_of_getElem? hl) m hm f hf)
 ·rcases h.outer.2 with⟨e,_⟩|⟨g,cap,cur,e,_,hc,_⟩
  ·rw[e] at hb;cases hb
  ·obtain rfl:g=b:=by rw[e] at hb;simpa [Value.ownBlock] using hb
   rw[hc] at ho;injection ho with ho;subst ho;refine .cells _ _ _ fun v hv=>?_;rcases h.outf g cur _ _ (by rw[e];rfl) hc v hv with rfl|⟨q,n,hq,rfl⟩
   ·exact .snil _ _
   ·exact .slice _ _ _ (hg q hq)
 ·have hbx:=(h.file _ hxi).1;unfold j6 at hbx;rw[hbx] at ho;injection ho with ho;subst ho;refine .cells _ _ _ fun v hv=>?_;simp at hv;rcases hv with rfl|rfl
  ·exact b8N (h.file _ hxi).2 fun q hq=>hZ q (.inr (.inr (.inr (.inr (.inr ⟨_,hxi,.inr hq⟩)))))
  ·exact .int _ _
 ·rcases(h.file x hxi).2.2 with⟨e,_⟩|⟨g,cap,cur,e,_,hc,_⟩
  ·rw[e] at hb;cases hb
  ·obtain rfl:g=b:=by rw[e] at hb;simpa [Value.ownBlock] using hb
   rw[hc] at ho;injection ho with ho;subst ho;refine .cells _ _ _ fun v hv=>?_;obtain⟨k,rfl⟩:=h.flat x hxi g cur _ _ (by rw[e];rfl) hc v hv;exact .int _ _
def Shun(a m1 m2:Nat)(mv:Value)(gs:List Nat)(dv:Nat->Value)(ids:List Nat)(n b:Nat):Prop:=b<n/\7<b/\¬Core a m1 m2 mv gs dv ids b
theorem DiskRep.wps(h:DiskRep w F a m1 m2 mv gs dv d)(hbase:∀b o,b<=7->w.heap[b]?=some o->ObjP zone o)(h7:7<w.heap.size):WPs zone (Shun a m1 m2 mv gs dv d.ids w.heap.size) w:=by
 have hle:Le zone (Zf zone (Shun a m1 m2 mv gs dv d.ids w.heap.size) w.heap.size):=⟨rfl,rfl,rfl,fun b(hb:b<=7)=>⟨by omega,fun hs=>by have:=hs.2.1;omega⟩⟩;refine⟨fun b o hb hn ho=>?_,fun b hb=>hb.1,fun b(hb:b<=7)=>⟨by omega,fun hs=>by have:=hs.2.1;omega⟩⟩;rcases Nat.lt_or_ge 7 b with hb7|hb7
 ·have hc:Core a m1 m2 mv gs dv d.ids b:=Classical.byContradiction fun hc=>hn ⟨hb,hb7,hc⟩;exact h.core_obj (Z:=Zf zone (Shun a m1 m2 mv gs dv d.ids w.heap.size) w.heap.size) (fun q hq=>show _/\_ from⟨h.low q (h.core_sub hq),fun hs=>hs.2.2 hq⟩) hc ho
 ·exact(hbase b o hb7 ho).mono hle
theorem DiskRep.vp(h:DiskRep w F a m1 m2 mv gs dv d):VP (Zf zone (Shun a m1 m2 mv gs dv d.ids w.heap.size) w.heap.size) (l7 a):=
 .ptr _ ⟨h.low a h.fa,fun hs=>hs.2.2 (.inl rfl)⟩
end
end
end Go.Proofs.YtgpbhjjajpbeeaaGreatDoor
set_option maxRecDepth 100000
namespace Go.Proofs.YtgpbhjjajpbeeaaGreatDoor
open Go.RowKit Go.Nm Go.Lib
open Zn (VP ObjP Zone)
noncomputable def intRow(t:TypeId):Bool:=Tryz.prog.buildable t&&(match Tryz.prog.cellTypes Tryz.prog.depth t with
 | some ts=>ts.all fun u=>match Tryz.prog.underlying u with|some (.int _)=>true|_=>false
 | none=>false)
theorem intRow.cells{W:World}{r:Reach}{t:TypeId}{cs:Array Value}(ht:intRow t=true)(h:Tryz.prog.buildable t=true->Row.ok Tryz.prog W r 0 t cs):∀v∈cs,∃k n,v=.int k n:=by
 unfold intRow at ht;simp only[Bool.and_eq_true] at ht;obtain⟨ts,h1,-,h2⟩:=h ht.1;rw[h1] at ht;intro v hv;obtain⟨i,hi⟩:=Array.mem_iff_getElem?.1 hv;obtain⟨u,hu,hc⟩:=h2 i v hi;have hk:=List.all_eq_true.1 ht.2 u (List.mem_of_getElem? hu);unfold Cell.ok at hc
 cases e:Tryz.prog.underlying u with
 | none=>rw[e] at hk;cases hk
 | some x=>
  rw[e] at hk hc;cases x<;>first|(cases hk;done)|skip
  cases v<;>first|exact hc.elim|exact⟨_,_,rfl⟩
noncomputable def rowAt(g:Nat):Option (Array Value×TypeId):=((begin Tryz.prog (fun _ _=>0) default).world.heap[g]?).bind Obj.row?
noncomputable def b2i(g:Nat):Bool:=match rowAt g with|some (_,t)=>intRow t|none=>false
theorem b0X:((List.range 7).filter fun g=>!b2i g)=[0]:=by kernel_rfl
theorem a9a:(rowAt 0).map (fun x=>x.1.size)=some 1:=by kernel_rfl
noncomputable def a5N:Bool:=match (begin Tryz.prog (fun _ _=>0) default).world.heap[7]? with
 | some (Obj.cells c _ _)=>c.toList.all (Zn.vOK zb 6)
 | _=>false
theorem a7V:a5N=true:=by kernel_rfl
theorem b6m{W:World}(h:W.ShapedOpen Tryz.prog)(hL:Laid W):∀b o,b<=7->W.heap[b]?=some o->ObjP zone o:=by
 intro b o hb ho;rcases Nat.lt_or_ge b 7 with hb7|hb7
 ·have hgl:b<Tryz.prog.globals.size:=by rw[globals_size];exact hb7
  by_cases he:b=0
  ·subst he;have h1:=a9a;obtain⟨⟨zero,t⟩,h2,h3⟩:=Option.map_eq_some_iff.1 h1;obtain⟨cs,h4,h5,-⟩:=h.1 _ zero t hgl h2;rw[h4] at ho;injection ho with ho;subst ho;have h6:cs.size=1:=h5.trans h3;have h7:cs[0]?=some (.iface 275 (.agg #[.pointer (some ⟨7,34,none⟩)])):=by
    have:=hL;unfold Laid at this;simpa [World.cell?,h4] using this
   refine .cells _ _ _ fun v hv=>?_;obtain⟨i,hi⟩:=Array.mem_iff_getElem?.1 hv;have hi0:i=0:=by
    have:=(Array.getElem?_eq_some_iff.1 hi).1;omega
   subst hi0;rw[h7] at hi;injection hi with hi;subst hi;refine .iface _ _ rfl (.agg _ fun x hx=>?_);obtain rfl:x=.pointer (some ⟨7,34,none⟩):=by simpa using hx
   exact .ptr _ (Nat.le_refl _)
  ·have hm:b∉((List.range 7).filter fun g=>!b2i g):=by
    rw[b0X];simpa using he
   have hi:b2i b=true:=by
    cases e:b2i b with
    | true=>rfl
    | false=>exact absurd (List.mem_filter.2 ⟨List.mem_range.2 hb7,by rw[e];rfl⟩) hm
   unfold b2i at hi
   cases hr:rowAt b with
   | none=>rw[hr] at hi;cases hi
   | some r=>
    obtain⟨zero,t⟩:=r;rw[hr] at hi;obtain⟨cs,h4,-,h5⟩:=h.1 b zero t hgl hr;rw[h4] at ho;injection ho with ho;subst ho;refine .cells _ _ _ fun v hv=>?_;obtain⟨k,n,rfl⟩:=intRow.cells hi h5 v hv;exact .int _ _
 ·obtain rfl:b=7:=by omega
  have hk:=a7V;unfold a5N at hk
  cases e:(begin Tryz.prog (fun _ _=>0) default).world.heap[7]? with
  | none=>rw[e] at hk;cases hk
  | some o0=>
   rw[e] at hk;have hlt:7<(begin Tryz.prog (fun _ _=>0) default).world.heap.size:=by
    rcases Nat.lt_or_ge 7 (begin Tryz.prog (fun _ _=>0) default).world.heap.size with h|h
    ·exact h
    ·rw[Array.getElem?_eq_none h] at e;cases e
   obtain⟨o1,o2,h1,h2,h3⟩:=h.2 7 (by rw[globals_size];exact Nat.le_refl _) hlt;rw[e] at h2;injection h2 with h2;subst h2;rw[globals_size,if_neg (by decide)] at h3;rw[ho] at h1;injection h1 with h1;subst h1;rw[h3]
   cases o0 with
   | cells c t fr=>
    exact .cells _ _ _ fun v hv=>Zn.vOK.sound _ _ (List.all_eq_true.1 hk v (by simpa using hv))
   | _=>cases hk
end Go.Proofs.YtgpbhjjajpbeeaaGreatDoor
namespace Go.Proofs.YtgpbhjjajpbeeaaGreatDoor
section
open Go.RowKit Go.Lib Go.Maps Dk Pl
open Go.Conc Go.Mw
open Zn (tp Full WPs VP Zf Le)
open To (wpT wpT_lone O1 Iv a6P To b2V bodyT a0f b0k b2U b4C)
set_option linter.unusedSectionVars false
abbrev a3k:Array Oper:=#[{dst:=some 30,op:=Op.move (Operand.tmp 8),type:=30,pos:= "law.go:420",after:=#[],guard:=none},{dst:=some 31,op:=Op.call {callee:=Callee.value (Operand.func 14),args:=#[Operand.tmp 30],argTypes:=#[30]},type:=35,pos:= "law.go:420",after:=#[{on:=0,ground:=Ground.data}],guard:=none},{dst:=some 29,op:=Op.move (Operand.tmp 31),type:=35,pos:= "law.go:420",after:=#[{on:=1,ground:=Ground.data}],guard:=none},{dst:=some 32,op:=Op.extract (Operand.tmp 29) 0,type:=32,pos:= "law.go:420",after:=#[{on:=2,ground:=Ground.data}],guard:=none},{dst:=some 33,op:=Op.extract (Operand.tmp 29) 1,type:=34,pos:= "law.go:420",after:=#[{on:=2,ground:=Ground.data},{on:=5,ground:=Ground.gcOnly Departure.lateStores}],guard:=none},{dst:=some 9,op:=Op.assign (Operand.tmp 32),type:=32,pos:= "law.go:420",after:=#[{on:=3,ground:=Ground.data},{on:=1,ground:=Ground.chain},{on:=0,ground:=Ground.phase},{on:=1,ground:=Ground.phase},{on:=2,ground:=Ground.phase},{on:=3,ground:=Ground.phase},{on:=4,ground:=Ground.textOnly Departure.lateStores}],guard:=none},{dst:=some 10,op:=Op.assign (Operand.tmp 33),type:=34,pos:= "law.go:420",after:=#[{on:=4,ground:=Ground.data},{on:=5,ground:=Ground.chain},{on:=0,ground:=Ground.phase},{on:=1,ground:=Ground.phase},{on:=2,ground:=Ground.phase},{on:=3,ground:=Ground.phase},{on:=4,ground:=Ground.phase},{on:=5,ground:=Ground.phase}],guard:=none}]
theorem c4p:M3 4=.region 5 a3k false:=by kernel_rfl
def cX(k:Tmp):Bool:=!(k==0||k==3||k==23||k==27)
theorem b1Y:Zn.cOK zb (I1 5)=true:=by kernel_rfl
theorem b5d:Zn.useB cX (I1 5)=true:=by kernel_rfl
theorem b0N{ρ:Operand->Value}{o:Oper}{x:Operand}{v:Value}(ho:o.op=.move x)(h:ρ x=v)(w:World):(execOp ρ o).run Tryz.prog w=.ok (.value v) w/\(execOp ρ o).events Tryz.prog w #[]=#[]:=by
 constructor<;>simp[go_sem,execOp,ho,h]
theorem b0O{ρ:Operand->Value}{o:Oper}{x:Operand}{v:Value}(ho:o.op=.assign x)(h:ρ x=v)(w:World):(execOp ρ o).run Tryz.prog w=.ok (.value v) w/\(execOp ρ o).events Tryz.prog w #[]=#[]:=by
 constructor<;>simp[go_sem,execOp,ho,h]
theorem b0P{ρ:Operand->Value}{o:Oper}{x:Operand}{i:Nat}{c:Array Value}{v V:Value}(ho:o.op=.extract x i)(h:ρ x=V)(hV:V=.tuple c)(hc:c[i]?=some v)(w:World):(execOp ρ o).run Tryz.prog w=.ok (.value v) w/\(execOp ρ o).events Tryz.prog w #[]=#[]:=by
 subst hV;constructor<;>simp[go_sem,execOp,ho,h,hc]
section
variable[Go.ConcR.Payload][To.Lo]{Sh:Nat->Prop}{w:World}{T:Array Value}{Q:Exit->Act->World->(Nat->Prop)->Prop}{F:Nat->Prop}{a:Nat}{D:Dk.D}
theorem b8L(hI:Iv zone Sh (fun k=>cX k=true) ⟨T,[]⟩ w)(hT:T.size=150)(h8:T[8]?=some (l7 a))(hgl:Tryz.prog.globals.size<=w.heap.size)(hD:o8 w F a D)(hds:∀x∈D.ids,(D.node x).data.length<=1099511627776)(hl:Held w F a0G)
 (hnext:∀x y w' Sh' T',b5p F Sh a D w (.tuple #[x,y]) w' Sh'->T'.size=150->T'[9]?=some x->T'[10]?=some y->(∀k,k=1\/k=2\/k=8->T'[k]?=T[k]?)->Iv zone Sh' (fun k=>cX k=true) ⟨T',[]⟩ w'->wpT Tryz.prog 4 (I1 5) Q ⟨T',[]⟩ w' Sh'):wpT Tryz.prog 4 (I1 4) Q ⟨T,[]⟩ w Sh:=by
 have hv:VP (Zf zone Sh w.heap.size) (l7 a):=by
  have:=hI.tmps 8 rfl;dsimp only at this;rw[a0t h8] at this;exact this
 have hoc:=b6L (F:=F) (Sh:=Sh) (a:=a) (d:=D) (w:=w) hI.W hgl hv hD hds hl;rw[c4m,c4p];refine O1 (To.wpT_region ?_);refine a0f (i:=0) (o:=a3k[0]) rfl rfl (fun w=>(b0N rfl (A7 h8) w).1) (fun w=>(b0N rfl (A7 h8) w).2) ?_;have t30:(T.setIfInBounds 30 (l7 a))[30]?=some (l7 a):=P7 (by omega);refine b0k (i:=1) (o:=a3k[1]) (f:=14) (args:=#[.tmp 30]) (ats:=#[30]) rfl rfl rfl (Post:=b5p F Sh a D w) ?_ ?_
 ·have e:(#[Operand.tmp 30]).map (Act.eval (Act.put ⟨T,[]⟩ a3k[0].dst (l7 a)))=#[l7 a]:=by
   simp only[List.map_toArray,List.map_cons,List.map_nil];rw[show Act.put ⟨T,[]⟩ a3k[0].dst (l7 a)=⟨T.setIfInBounds 30 (l7 a),[]⟩ from rfl,A7 t30]
  rw[e];exact hoc
 ·intro v w' Sh' hP;obtain⟨x,y,rfl⟩:∃x y,v=.tuple #[x,y]:=by
   rcases hP.res with⟨_,_,y,h,_⟩|⟨sb,gen,ids,bss,_,_,_,h,_⟩
   ·exact⟨_,_,h⟩
   ·exact⟨_,_,h⟩
  obtain⟨V,hV⟩:∃V,V=Value.tuple #[x,y]:=⟨_,rfl⟩;rw[<-hV];have hVP:VP (Zf zone Sh' w'.heap.size) V:=hV▸hP.vp;have hxy:VP (Zf zone Sh' w'.heap.size) x/\VP (Zf zone Sh' w'.heap.size) y:=by
   have:=hP.vp
   cases this with
   | tuple c h=>exact⟨h x (by simp),h y (by simp)⟩
  have eT:Act.put (Act.put ⟨T,[]⟩ a3k[0].dst (l7 a)) a3k[1].dst V=⟨(T.setIfInBounds 30 (l7 a)).setIfInBounds 31 V,[]⟩:=rfl;rw[eT];have s1:((T.setIfInBounds 30 (l7 a)).setIfInBounds 31 V).size=150:=by simp only[Array.size_setIfInBounds,hT]
  have k1:∀k,k≠30->k≠31->((T.setIfInBounds 30 (l7 a)).setIfInBounds 31 V)[k]?=T[k]?:=fun k h1 h2=>by
   rw[Array.getElem?_setIfInBounds_ne (Ne.symm h2),Array.getElem?_setIfInBounds_ne (Ne.symm h1)]
  have g30:((T.setIfInBounds 30 (l7 a)).setIfInBounds 31 V)[30]?=some (l7 a):=o7 t30 (by decide);have g31:((T.setIfInBounds 30 (l7 a)).setIfInBounds 31 V)[31]?=some V:=P7 (by simp only[Array.size_setIfInBounds,hT];decide);generalize (T.setIfInBounds 30 (l7 a)).setIfInBounds 31 V=T1 at s1 k1 g30 g31⊢;refine a0f (i:=2) (o:=a3k[2]) (v:=V) rfl rfl (fun w=>(b0N rfl (A7 g31) w).1) (fun w=>(b0N rfl (A7 g31) w).2) ?_;rw[show Act.put ⟨T1,[]⟩ a3k[2].dst V=⟨T1.setIfInBounds 29 V,[]⟩ from rfl];have step:∀(T:Array Value)(i:Nat)(v:Value),T.size=150->i<150->∃T',T.setIfInBounds i v=T'/\T'.size=150/\T'[i]?=some v/\∀k,k≠i->T'[k]?=T[k]?:=fun T i v hs hi=>
   ⟨_,rfl,by rw[Array.size_setIfInBounds,hs],P7 (by omega),fun k hk=>Array.getElem?_setIfInBounds_ne (Ne.symm hk)⟩
  obtain⟨T2,e2,s2,g29,k2⟩:=step T1 29 V s1 (by decide);rw[e2];refine a0f (i:=3) (o:=a3k[3]) (v:=x) rfl rfl (fun w=>(b0P rfl (A7 g29) hV rfl w).1) (fun w=>(b0P rfl (A7 g29) hV rfl w).2) ?_;rw[show Act.put ⟨T2,[]⟩ a3k[3].dst x=⟨T2.setIfInBounds 32 x,[]⟩ from rfl];obtain⟨T3,e3,s3,g32,k3⟩:=step T2 32 x s2 (by decide);rw[e3];have g29':T3[29]?=some V:=(k3 29 (by decide)).trans g29;refine a0f (i:=4) (o:=a3k[4]) (v:=y) rfl rfl (fun w=>(b0P rfl (A7 g29') hV rfl w).1) (fun w=>(b0P rfl (A7 g29') hV rfl w).2) ?_;rw[show Act.put ⟨T3,[]⟩ a3k[4].dst y=⟨T3.setIfInBounds 33 y,[]⟩ from rfl];obtain⟨T4,e4,s4,g33,k4⟩:=step T3 33 y s3 (by decide);rw[e4];have g32':T4[32]?=some x:=(k4 32 (by decide)).trans g32;refine a0f (i:=5) (o:=a3k[5]) (v:=x) rfl rfl (fun w=>(b0O rfl (A7 g32') w).1) (fun w=>(b0O rfl (A7 g32') w).2) ?_;rw[show Act.put ⟨T4,[]⟩ a3k[5].dst x=⟨T4.setIfInBounds 9 x,[]⟩ from rfl];obtain⟨T6,e6,s6,g9,k6⟩:=step T4 9 x s4 (by decide);rw[e6];have g33':T6[33]?=some y:=(k6 33 (by decide)).trans g33;refine a0f (i:=6) (o:=a3k[6]) (v:=y) rfl rfl (fun w=>(b0O rfl (A7 g33') w).1) (fun w=>(b0O rfl (A7 g33') w).2) ?_;rw[show Act.put ⟨T6,[]⟩ a3k[6].dst y=⟨T6.setIfInBounds 10 y,[]⟩ from rfl];obtain⟨T5,e5,s5,g10,k5⟩:=step T6 10 y s6 (by decide);rw[e5];have key:∀k,T5[k]?=if k=10 then some y else if k=9 then some x else if k=33 then some y else if k=32 then some x else if k=29 then some V else T1[k]?:=by
   intro k;by_cases h10:k=10
   ·subst h10;rw[if_pos rfl];exact g10
   rw[if_neg h10,k5 k h10];by_cases h9:k=9
   ·subst h9;rw[if_pos rfl];exact g9
   rw[if_neg h9,k6 k h9];by_cases h33:k=33
   ·subst h33;rw[if_pos rfl];exact g33
   rw[if_neg h33,k4 k h33];by_cases h32:k=32
   ·subst h32;rw[if_pos rfl];exact g32
   rw[if_neg h32,k3 k h32];by_cases h29:k=29
   ·subst h29;rw[if_pos rfl];exact g29
   rw[if_neg h29,k2 k h29]
  clear e2 e3 e4 e5 e6;have hle:Le (Zf zone Sh w.heap.size) (Zf zone Sh' w'.heap.size):=⟨rfl,rfl,rfl,fun b h=>⟨Nat.lt_of_lt_of_le h.1 hP.chh.size,fun hs=>h.2 (hP.old b h.1 hs)⟩⟩;refine b2U (show wpT _ _ _ _ _ _ _ from ?_);refine hnext x y w' Sh' _ (hV▸hP) s5 (by rw[key 9,if_neg (by decide),if_pos rfl]) (by rw[key 10,if_pos rfl]) (fun k hk=>?_) ⟨fun t ht=>?_,fun d hd=>(by cases hd),hP.W⟩
  ·rw[key k,if_neg (by omega),if_neg (by omega),if_neg (by omega),if_neg (by omega),if_neg (by omega)];exact k1 k (by omega) (by omega)
  ·show VP _ (Array.getD T5 t undef);rw[Array.getD_eq_getD_getElem?,key t];split
   ·exact hxy.2
   split
   ·exact hxy.1
   split
   ·exact hxy.2
   split
   ·exact hxy.1
   split
   ·exact hVP
   by_cases h30:t=30
   ·subst h30;rw[g30];exact hv.mono hle
   by_cases h31:t=31
   ·subst h31;rw[g31];exact hVP
   ·rw[k1 t h30 h31,<-Array.getD_eq_getD_getElem?];exact(hI.tmps t ht).mono hle
end
end
section
open Go.RowKit Go.Lib Go.Maps Dk Pl
open Go.Conc Go.Mw
open Zn (tp Full WPs VP Zf Le)
open To (wpT wpT_lone O1 Iv a6P To b2V bodyT)
set_option linter.unusedSectionVars false
theorem Held.to_tp{w:World}{τ:Nat->Question->Nat}{p:Nat}{F:Nat->Prop}{Φ:World->Prop}(h:Held w F Φ):Held (tp w τ p) F Φ:=let ⟨S,h1,h2⟩:=h;⟨S,h1,h2⟩
section
variable[Go.ConcR.Payload][To.Lo]{Sh:Nat->Prop}{w:World}{T:Array Value}{F:Nat->Prop}{a:Nat}{D:Dk.D}{percent count:Int}
theorem b8M(hI:Iv zone Sh (fun k=>cX k=true) ⟨T,[]⟩ w)(hT:T.size=150)(h1:T[1]?=some (.int .i64 percent))(h2:T[2]?=some (.int .i64 count))(h8:T[8]?=some (l7 a))(hgl:Tryz.prog.globals.size<=w.heap.size)(hD:o8 w F a D)(hc:D.Calm)(hfit:D.Fit)(hL:Laid w)(hF:∀b,F b->7<b)(hl:Held w F a0G):
 wpT Tryz.prog 4 (I1 4) (bodyT Tryz.prog Tryz.f4 fun v w' _=>v=.bool true/\Chh F w w') ⟨T,[]⟩ w Sh:=by
 refine b8L hI hT h8 hgl hD hfit.data hl ?_;intro x y w' Sh' T' hP hT' h9 h10 hk hI';have hkc:=b4B hc;have hL':Laid w':=by
  unfold Laid at hL⊢;refine(World.cell?_of_block (hP.chh.block _ ?_ fun h=>?_)).trans hL
  ·exact b5l hL
  ·have:=hF _ h;exact absurd this (by decide)
 have hD':o8 w' F a D:=by have:=hP.disk;rw[hkc.1] at this;exact this
 have hend:∀(e:Exit)(a':Act)(w'':World)(τ:Nat->Question->Nat)(p:Nat)(τ':Nat->Question->Nat)(p':Nat),QC5 F (tp w' τ p) e a' (tp w'' τ' p')->(e=.normal\/e=.ret)/\(Iv zone Sh' (fun k=>cX k=true) a' w''->w'.heap.size<=w''.heap.size->bodyT Tryz.prog Tryz.f4 (fun v w' _=>v=.bool true/\Chh F w w') e a' w'' Sh'):=by
  intro e a' w'' τ p τ' p' q;cases e<;>first|exact q.elim|skip
  obtain⟨q1,q2,q3⟩:=q;exact⟨.inr rfl,fun _ _=>⟨q1,_,resultsC_tmp rfl a'.tmps,a0t q2,hP.chh.trans (.of q3)⟩⟩
 rcases hP.res with⟨r1,r2,y',e,hE⟩|⟨sb,gen,ids,bss,r1,r2,hids,e,hst⟩
 ·have hy:y=y':=by
   injection e with e;have:=congrArg (fun A:Array Value=>A[1]?) e;simpa using this
  subst hy;exact piece (fun w=>QC5 F w) hI' (Zn.cOK.sound b1Y) (Zn.useB.sound b5d) (fun τ p=>c1k hT' ((hk 8 (.inr (.inr rfl))).trans h8) h10 hD'.to_tp hc hfit hL' hE.to_tp.get hkc.2.2.1 (hkc.2.2.2.2.1 r1)) hend
 ·have hx:x=.pointer (some ⟨sb,0,none⟩)/\y=.nilIface:=by
   injection e with e;have h0:=congrArg (fun A:Array Value=>A[0]?) e;have h1:=congrArg (fun A:Array Value=>A[1]?) e;exact⟨by simpa using h0,by simpa using h1⟩
  obtain⟨rfl,rfl⟩:=hx;have hro:J6 D.files=(some (gen,ids,bss),0,[]):=by
   have e1:=hkc.2.1;have e2:=hkc.2.2.1;rw[r1] at e1;rw[r2] at e2;have hn:=b1u D.files (by rw[<-e1];simp);exact Prod.ext e1.symm (Prod.ext e2.symm hn)
  exact piece (fun w=>QC5 F w) hI' (Zn.cOK.sound b1Y) (Zn.useB.sound b5d) (fun τ p=>c3e hT' ((hk 1 (.inl rfl)).trans h1) ((hk 2 (.inr (.inl rfl))).trans h2) ((hk 8 (.inr (.inr rfl))).trans h8) h9 h10 hD'.to_tp hc hfit hL' hst.to_tp hids hro) hend
end
end
end Go.Proofs.YtgpbhjjajpbeeaaGreatDoor
