/- A part of what the last file proves. -/
import Derived.Test.YtgpbhjjajpbeeaaGreatDoorR24
import Derived.Test.YtgpbhjjajpbeeaaGreatDoorR26
import Derived.Test.YtgpbhjjajpbeeaaGreatDoorCards
import Derived.Test.YtgpbhjjajpbeeaaGreatDoorTie
import Derived.ProofKit
import Derived.OpenShut
import Derived.Deep.DeepLaidRun
import Derived.Deep.Slices
import Derived.WideKeyArgs
import Derived.LaidLaws
import Derived.LaidHandle
import Derived.Leaving
import Derived.Conc.Holds
import Derived.Lib.LaidTab
import Derived.Lib.SmallJoins
import Derived.SizedLaws
set_option linter.all false
set_option maxRecDepth 100000
namespace Go.Nm
open Go.Extern Go.Extern.Rtype
variable{P:Program}
theorem a4X{zero:Sem Value}{f:TypeId->Addr->Nat->Nat->Sem Value}(hz:Mf P zero)(hf:∀t a fl k,Mf P (f t a fl k)){args:Array Value}:Mf P (ReflectliteValue.method zero f args):=by
 obtain⟨l⟩:=args;rcases l with _|⟨x,_|⟨y,l⟩⟩
 ·exact trivial
 ·refine l9 a5E fun o=>?_
  cases o with
  | none=>exact hz
  | some o=>obtain⟨t,a,fl⟩:=o;exact hf _ _ _ _
 ·exact trivial
theorem a9n{zero:Sem Value}{f:TypeId->Addr->Nat->Nat->Sem Value}(hz:Mf P zero)(hf:∀t a fl k,Mf P (f t a fl k)){args:Array Value}:Mf P (ReflectliteValue.methodAny zero f args):=by
 obtain⟨l⟩:=args;rcases l with _|⟨x,_|⟨y,l⟩⟩
 ·exact trivial
 ·refine l9 a7d fun o=>?_
  cases o with
  | none=>exact hz
  | some o=>obtain⟨t,a,fl⟩:=o;exact hf _ _ _ _
 ·exact trivial
structure DB where
 F:FuncId->Bool
 N:String->Bool
def DB.disc(B:DB):Disc:={F:=fun f=>B.F f=true,N:=fun n=>B.N n=true}
variable(B:DB)
def b5G:Callee->Bool
 | .value (.func f)=>B.F f
 | .invoke _ n=>B.N n
 | .builtin b=>bN b
 | _=>false
def opB:Op->Bool
 | .call c=>b5G B c.callee
 | .go _|.defer _|.send .. | .recv .. | .select .. | .makeChan .. | .ready _|.waits _|.mapEntry .. | .entryStore .. | .sliceToArrayPointer ..=>false
 | _=>true
def codeB:Code->Bool
 | .seq a b=>codeB a&&codeB b
 | .cond _ a b=>codeB a&&codeB b
 | .block _ b=>codeB b
 | .loop b=>codeB b
 | .scope b=>codeB b
 | .region _ ops _=>ops.toList.all fun o=>opB B o.op
 | .rangeFunc ..=>false
 | _=>true
variable{B}
theorem opB.sound{o:Op}(h:opB B o=true):OpN B.disc o:=by
 cases o<;>first|trivial|(cases h;done)|skip
 rename_i c;show b1w B.disc c.callee;have h2:b5G B c.callee=true:=h
 cases hc:c.callee with
 | value x=>
  rw[hc] at h2
  cases x<;>first|exact h2|cases h2
 | _=>rw[hc] at h2;exact h2
theorem codeB.sound:∀{c:Code},codeB B c=true->CodeN B.disc c:=by
 intro c
 induction c with
 | seq a b iha ihb=>intro h;simp only[codeB,Bool.and_eq_true] at h;exact⟨iha h.1,ihb h.2⟩
 | cond x a b iha ihb=>intro h;simp only[codeB,Bool.and_eq_true] at h;exact⟨iha h.1,ihb h.2⟩
 | block id b ih=>intro h;exact ih h
 | loop b ih=>intro h;exact ih h
 | scope b ih=>intro h;exact ih h
 | region id ops d=>intro h;exact fun o ho=>opB.sound (List.all_eq_true.1 h o (by simpa using ho))
 | rangeFunc f p a b iha ihb=>intro h;cases h
 | _=>intro _;trivial
end Go.Nm
namespace Go.Proofs.YtgpbhjjajpbeeaaGreatDoor
open Go.RowKit Go.Nm Go.Extern
def lOf:List Nat:=[12,13,15,16,17,20,31,32,37,46,47,48,49,50,51,52,53,65,66,67,68,69,75,76,77,80,88,89,90,91,92,93,97,119,120,121,122,123,124,125,148,162,163,164,165,180,181,182,183,184,185,186,187,188,189,190,208,209,210,211,212,213,222,247,248,253,255,259,261,262]
def db:DB:={F:=fun f=>lOf.contains f,N:=fun n=>["Kind","Elem","Implements","As","Unwrap","AssignableTo"].contains n}
noncomputable def a5y(f:Nat):Bool:=match Tryz.prog.funcs[f]? with
 | some fn=>(fn.name != "runtime.NumGoroutine")&&(match fn.body with|some c=>codeB db c|none=>[97,119,120,121,162,163,247,248,255,259,261,262].contains f)
 | none=>true
theorem c3K:lOf.all a5y=true:=by kernel_rfl
theorem c3M:Tryz.prog.types.toList.all (fun i=>i.methods.toList.all fun m=>!db.N m.name||(match m.func with|some (f,_)=>db.F f|none=>true))=true:=by kernel_rfl
end Go.Proofs.YtgpbhjjajpbeeaaGreatDoor
namespace Go.Proofs.YtgpbhjjajpbeeaaGreatDoor
section
open Go.RowKit Go.Nm Go.Extern
theorem b4g:Tryz.prog.funcs.toList.all (fun f=>match f.body with|some c=>(readies c).all fun g=>decide (g<7)|none=>true)=true:=by kernel_rfl
theorem b4h(g:Nat)(hg:Tryz.prog.globals.size<=g):Tryz.prog.stepOf g=none:=by
 rw[globals_size] at hg;unfold Program.stepOf;rw[Array.findIdx?_eq_none_iff];intro f hf;have:=List.all_eq_true.1 b4g f (by simpa using hf)
 cases hb:f.body with
 | none=>rfl
 | some c=>
  rw[hb] at this;dsimp only at this;simp only[Option.map_some,Option.any_some]
  cases hc:(readies c).contains g with
  | false=>rfl
  | true=>
   exfalso;have h1:=List.all_eq_true.1 this g (by simpa using hc);have:=of_decide_eq_true h1;omega
theorem a8x{fn:Func}{x:Array Value->Sem Value}(hn:Extern.findNext fn=none)(hf:Extern.find fn=some x)(hx:∀args,Mf Tryz.prog (x args)):Extern.findNext fn=none/\∀e args,Extern.find fn=some e->Mf Tryz.prog (e args):=
 ⟨hn,fun e args h=>(Option.some.inj (hf.symm.trans h))▸hx args⟩
theorem b68{fn:Func}(hn:Extern.findNext fn=none)(hf:Extern.find fn=none):Extern.findNext fn=none/\∀e args,Extern.find fn=some e->Mf Tryz.prog (e args):=⟨hn,fun e args h=>absurd h (by rw[hf];simp)⟩
theorem c4V:∀f∈[97,119,120,121,162,163,247,248,255,259,261,262],∀fn,Tryz.prog.funcs[f]?=some fn->Extern.findNext fn=none/\∀e args,Extern.find fn=some e->Mf Tryz.prog (e args):=by
 intro f hf fn hfn;simp only[List.mem_cons,List.not_mem_nil,or_false] at hf;rcases hf with rfl|rfl|rfl|rfl|rfl|rfl|rfl|rfl|rfl|rfl|rfl|rfl
 ·obtain rfl:=Option.some.inj (Tryz.func97.symm.trans hfn);exact a8x (x:=ReflectliteType.typeOf) (by kernel_rfl) (by kernel_rfl) fun args=>b7k
 ·obtain rfl:=Option.some.inj (Tryz.func119.symm.trans hfn);exact a8x (x:=fun args=>ReflectliteValue.unpack (args.getD 0 (.tuple #[]))) (by kernel_rfl) (by kernel_rfl) fun args=>b0q
 ·obtain rfl:=Option.some.inj (Tryz.func120.symm.trans hfn);exact a8x (x:=ReflectliteValue.methodAny (ReflectliteValue.valueError "reflectlite.Value.Type" 0) fun t _ _ _=>ReflectliteType.toType t) (by kernel_rfl) (by kernel_rfl) fun args=>a9n (a0C _ _) fun t _ _ _=>a6y t
 ·obtain rfl:=Option.some.inj (Tryz.func121.symm.trans hfn);exact a8x (x:=ReflectliteValue.method (ReflectliteValue.valueError "reflectlite.Value.IsNil" 0) ReflectliteValue.isNil) (by kernel_rfl) (by kernel_rfl) fun args=>a4X (a0C _ _) fun t a fl k=>b7m t fl k
 ·obtain rfl:=Option.some.inj (Tryz.func162.symm.trans hfn);exact a8x (x:=ReflectliteValue.method (ReflectliteValue.valueError "reflectlite.Value.Elem" 0) ReflectliteValue.elem) (by kernel_rfl) (by kernel_rfl) fun args=>a4X (a0C _ _) fun t a fl k=>b9S t fl k
 ·obtain rfl:=Option.some.inj (Tryz.func163.symm.trans hfn);exact a8x (x:=ReflectliteValue.set) (by kernel_rfl) (by kernel_rfl) fun args=>c3S
 ·obtain rfl:=Option.some.inj (Tryz.func247.symm.trans hfn);exact b68 (by kernel_rfl) (by kernel_rfl)
 ·obtain rfl:=Option.some.inj (Tryz.func248.symm.trans hfn);exact a8x (x:=ReflectliteType.abiMethod fun t=>do pure (.int .u8 (<-Rtype.kind t))) (by kernel_rfl) (by kernel_rfl) fun args=>b1v (f:=fun t=>do pure (.int .u8 (<-Rtype.kind t))) (fun t=>l9 (a7S t) fun _=>o5 _) args
 ·obtain rfl:=Option.some.inj (Tryz.func255.symm.trans hfn);exact a8x (x:=ReflectliteValue.method (pure (.int .u8 0)) fun _ _ _ k=>pure (.int .u8 (Int.ofNat k))) (by kernel_rfl) (by kernel_rfl) fun args=>a4X (zero:=pure (.int .u8 0)) (f:=fun _ _ _ k=>pure (.int .u8 (Int.ofNat k))) (o5 _) fun _ _ _ _=>o5 _
 ·obtain rfl:=Option.some.inj (Tryz.func259.symm.trans hfn);exact a8x (x:=ReflectliteType.relation "AssignableTo" ReflectliteType.assignableTo) (by kernel_rfl) (by kernel_rfl) fun args=>a7c (fun t u=>a7C t u) args
 ·obtain rfl:=Option.some.inj (Tryz.func261.symm.trans hfn);exact a8x (x:=ReflectliteType.method ReflectliteType.elem) (by kernel_rfl) (by kernel_rfl) fun args=>b7l (fun t=>b9R t) args
 ·obtain rfl:=Option.some.inj (Tryz.func262.symm.trans hfn);exact a8x (x:=ReflectliteType.relation "Implements" ReflectliteType.implements_) (by kernel_rfl) (by kernel_rfl) fun args=>a7c (fun t u=>a8H t u) args
theorem b69:∀(t:Nat)(i:TypeInfo),Tryz.prog.types[t]?=some i->Zn.ZOK zone i:=fun t i hi z hzz=>by
 have h1:=List.all_eq_true.1 types i (by rw[<-Array.getElem?_toList] at hi;exact List.mem_of_getElem? hi);unfold typeAt at h1;simp only[Bool.and_eq_true] at h1;rw[hzz] at h1;exact Zn.vOK.sound _ _ h1.1
theorem pnc:PNC db.disc Tryz.prog:=by
 have at_:∀f fn,db.disc.F f->Tryz.prog.funcs[f]?=some fn->a5y f=true:=fun f fn hf _=>List.all_eq_true.1 c3K f (by simpa [DB.disc,db] using hf);refine⟨⟨fun t i hi m hm hN f p hf=>?_,fun f fn hf hfn=>?_,fun f fn hf hfn hb=>?_⟩,b4h,fun f fn c hf hfn hb=>?_⟩
 ·rcases Nat.lt_or_ge t Tryz.prog.types.size with ht|ht
  ·have h1:=List.all_eq_true.1 c3M i (by have:=Zn.info_old ht hi;rw[<-Array.getElem?_toList] at this;exact List.mem_of_getElem? this);have h2:=List.all_eq_true.1 h1 m (by simpa using hm);rw[hf,show db.N m.name=true from hN] at h2;exact(by simpa using h2:db.F f=true)
  ·rw[(Zn.info_ok (Z:=zone) b69 hi).2 ht] at hm;simp at hm
 ·have h1:=at_ f fn hf hfn;unfold a5y at h1;rw[hfn] at h1;simp only[Bool.and_eq_true] at h1;simpa using h1.1
 ·have h1:=at_ f fn hf hfn;unfold a5y at h1;rw[hfn] at h1;simp only[Bool.and_eq_true,hb] at h1;exact c4V f (by simpa using h1.2) fn hfn
 ·have h1:=at_ f fn hf hfn;unfold a5y at h1;rw[hfn] at h1;simp only[Bool.and_eq_true,hb] at h1;exact codeB.sound h1.2
end
section
open Go.RowKit Go.Nm
theorem b1l:(List.range 7).all (fun g=>(((begin Tryz.prog (fun _ _=>0) default).world.heap[g]?).bind Obj.row?).isSome)=true:=by kernel_rfl
theorem a8y{W:World}(h:W.ShapedOpen Tryz.prog):∀g,g<Tryz.prog.globals.size->IsRow W g:=by
 intro g hg;have hg':g<7:=by rw[globals_size] at hg;exact hg
 have h1:=List.all_eq_true.1 b1l g (List.mem_range.2 hg');obtain⟨⟨zero,t⟩,h2⟩:=Option.isSome_iff_exists.1 h1;obtain⟨cs,h3,-⟩:=h.1 g zero t hg h2;exact⟨cs,t,_,h3⟩
end
section
open Go.ChangeShapes Go.WideShapes Go.ChangeAt Go.RowKit Go.Joins Go.Lib Pl
namespace zpost
theorem card_goes{p:Pinned}{s:OpenSpec}{c:OpenClaim}(kinds:List LaidKind)(har:Bool×String)(lk:Bool)
 (hc:c.holds p s)(hw:c.wfByText s=true)(htie:c.laidByTextAt .later p kinds true)
 (hst:c.start=.entering)(hnb:c.noBlocks=false/\c.again=false)(hm:p.checked.prog.mainIs=some (har.1,har.2.toList))(hn:(!har.1&&har.2.isEmpty&&!lk)=false)
 (hl:∀f fn,p.checked.prog.funcNamed c.func=some f->p.checked.prog.funcs[f]?=some fn->lk=p.checked.prog.looks []/\∀(j:Nat)t,fn.params[j]?=some t->p.checked.prog.wantsStandIn t=false)
 (hg:true=c.goesBy p.checked.prog):
 Claim7.holds p (.plain s) {stood:={row:=c,standIns:=[],harness:=har,looks:=lk},kinds:=[],alts:=[],goes:=true,laidByText:=true,laidKinds:=kinds,laidTests:=true,laidLooks:=.later}:=by
 have h6:Claim7.isSixth {stood:={row:=c,standIns:=[],harness:=har,looks:=lk},kinds:=[]} = false:=by simpa [Claim7.isSixth] using hn
 refine⟨?_,(fun D hD=>by cases hD),htie,(fun h=>by cases h),hg⟩;exact Claim7.tied_new_at .later kinds true (Claim7.new_of_sixth hc har lk hst hnb hm h6 hl) hw
theorem own:ownKnob Tryz.prog.godebug=none:=by kernel_rfl
theorem et:Tryz.prog.globalNamed "errors.errorType" = some 0:=by kernel_rfl
theorem rt:(Tryz.prog.cutTypes.find? (·.1== "internal/reflectlite.rtype")).map (·.2)=some 275:=by kernel_rfl
theorem oneRow:((List.range 395).filter fun t=>Tryz.prog.rowNamed t [101,114,114,111,114])=[34]:=by kernel_rfl
theorem size:Tryz.prog.types.size=395:=by kernel_rfl
theorem handle:typeHandle Tryz.prog 34=.pointer (some ⟨7,34,none⟩):=by kernel_rfl
abbrev laid:List (String×DataW Unit):=Rows.cleansRow.laid
theorem laid_of{W:World}(h:laidMetH Tryz.prog laid W):Laid W:=by
 have h':laidMet Tryz.prog (laid.filter fun x=>x.2.handleName?.isNone) W/\handlesMet Tryz.prog [("errors.errorType",Rows.laid_errors_errorType)] W:=h;obtain⟨name,u,ty,e1,e2,e3,e4,e5⟩:=h'.2 _ (List.mem_singleton.2 rfl);have en:name=[101,114,114,111,114]:=(Option.some.inj e1).symm;subst en;obtain rfl:=Option.some.inj (rt.symm.trans e2);have hm:ty∈(List.range 395).filter fun t=>Tryz.prog.rowNamed t [101,114,114,111,114]:=List.mem_filter.2 ⟨List.mem_range.2 (by rw[<-size];exact e3),e4⟩;rw[oneRow] at hm;obtain rfl:=List.mem_singleton.1 hm;rw[handle] at e5;have:=World.var?_cell et e5 0;unfold Laid;simpa using this
theorem g10:Tryz.prog.globalNamed "internal/strconv.uint64pow10" = some 1:=by kernel_rfl
theorem c5T:(Tryz.prog.globals[1]?).map (·.type)=some 353:=by kernel_rfl
theorem laidP_of{W:World}(h:laidMetH Tryz.prog laid W):LaidP W:=by
 have h':laidMet Tryz.prog [("math/bits.deBruijn32tab",Rows.laid_math_bits_deBruijn32tab),("math/bits.deBruijn64tab",Rows.laid_math_bits_deBruijn64tab),("internal/strconv.uint64pow10",Rows.laid_internal_strconv_uint64pow10),("unicode/utf8.acceptRanges",Rows.laid_unicode_utf8_acceptRanges),("unicode/utf8.first",Rows.laid_unicode_utf8_first)] W:=
  (show laidMet Tryz.prog (laid.filter fun x=>x.2.handleName?.isNone) W/\handlesMet Tryz.prog [("errors.errorType",Rows.laid_errors_errorType)] W from h).1
 obtain⟨ps,⟨_,_,_,_,_,_,_,_,_,_,⟨_,_,_,_,_,_,_,_,_,_,⟨g',t',cs,fuel,p,q,hg',ht',hvar,hd,_,_⟩,_⟩,_⟩,_⟩:=h';obtain rfl:=Option.some.inj (g10.symm.trans hg');obtain rfl:=Option.some.inj (c5T.symm.trans ht');unfold LaidP TabIs;have hd':DataW.trod (fun _=>()) Tryz.prog W 0 (fun _=>true) false fuel 353 cs.toList=some (tabData .u64 pow10Tab,p):=hd;rw[hvar,<-cells_of_tab Tryz.underlying353 Tryz.underlying24 (by kernel_rfl) (by kernel_rfl) hd']
def c5V:Lit->Value
 | .int k n=>.int k n
 | _=>.nilIface
def lv:DataW Unit->Value
 | .lit l=>c5V l
 | _=>.nilIface
def c5W:DataW Unit->List Value
 | .agg xs=>xs.map lv
 | x=>[lv x]
def c0z:DataW Unit->List Value
 | .agg xs=>xs.flatMap c5W
 | x=>[lv x]
def put(cs:List Value):Obj->Obj
 | .cells _ t frozen=>.cells cs.toArray t frozen
 | o=>o
noncomputable def laidWorld(os:Os)(args:Array Value):World:=
 {World.holding Tryz.prog os ⟨#[],args,[]⟩ with heap:=(((((((World.holding Tryz.prog os ⟨#[],args,[]⟩).heap.modify 0 (put [.iface 275 (.agg #[.pointer (some ⟨7,34,none⟩)])])).modify 5 (put (c0z Rows.laid_math_bits_deBruijn32tab))).modify 6 (put (c0z Rows.laid_math_bits_deBruijn64tab))).modify 1 (put (c0z Rows.laid_internal_strconv_uint64pow10))).modify 4 (put (c0z Rows.laid_unicode_utf8_acceptRanges))).modify 3 (put (c0z Rows.laid_unicode_utf8_first)))}
theorem laidWorld_met(os:Os)(args:Array Value):laidMetH Tryz.prog laid ((laidWorld os #[]).forCall (fun _ _=>0) ⟨#[],args,[]⟩).memory:=
 laidMetH_of_parts (laidMet_of_run3 8 (by kernel_rfl) (by kernel_rfl) (by kernel_rfl)) (by kernel_rfl)
variable{H:Type}{enc:TypeId×Value->H}{P:Program}
end zpost
end
end Go.Proofs.YtgpbhjjajpbeeaaGreatDoor
set_option maxRecDepth 100000
namespace Go.Proofs.YtgpbhjjajpbeeaaGreatDoor
open Go.RowKit Go.Nm Go.Lib
open Zn (VP ObjP Zone)
noncomputable def intRow(t:TypeId):Bool:=Tryz.prog.buildable t&&(match Tryz.prog.cellTypes Tryz.prog.depth t with
 | some ts=>ts.all fun u=>match Tryz.prog.underlying u with|some (.int _)=>true|_=>false
 | none=>false)
theorem intRow.cells{W:World}{r:Reach}{t:TypeId}{cs:Array Value}(ht:intRow t=true)(h:Tryz.prog.buildable t=true->Row.ok Tryz.prog W r 0 t cs):∀v∈cs,∃k n,v=.int k n:=by
 unfold intRow at ht;simp only[Bool.and_eq_true] at ht;obtain⟨ts,h1,-,h2⟩:=h ht.1;rw[h1] at ht;intro v hv;obtain⟨i,hi⟩:=Array.mem_iff_getElem?.1 hv;obtain⟨u,hu,hc⟩:=h2 i v hi;have hk:=List.all_eq_true.1 ht.2 u (List.mem_of_getElem? hu);unfold Cell.ok at hc
 cases e:Tryz.prog.underlying u with
 | none=>rw[e] at hk;cases hk
 | some x=>
  rw[e] at hk hc;cases x<;>first|(cases hk;done)|skip
  cases v<;>first|exact hc.elim|exact⟨_,_,rfl⟩
noncomputable def rowAt(g:Nat):Option (Array Value×TypeId):=((begin Tryz.prog (fun _ _=>0) default).world.heap[g]?).bind Obj.row?
noncomputable def b2t(g:Nat):Bool:=match rowAt g with|some (_,t)=>intRow t|none=>false
theorem b1b:((List.range 7).filter fun g=>!b2t g)=[0]:=by kernel_rfl
theorem a9k:(rowAt 0).map (fun x=>x.1.size)=some 1:=by kernel_rfl
noncomputable def a6g:Bool:=match (begin Tryz.prog (fun _ _=>0) default).world.heap[7]? with
 | some (Obj.cells c _ _)=>c.toList.all (Zn.vOK zb 6)
 | _=>false
theorem a8j:a6g=true:=by kernel_rfl
theorem b6n{W:World}(h:W.ShapedOpen Tryz.prog)(hL:Laid W):∀b o,b<=7->W.heap[b]?=some o->ObjP zone o:=by
 intro b o hb ho;rcases Nat.lt_or_ge b 7 with hb7|hb7
 ·have hgl:b<Tryz.prog.globals.size:=by rw[globals_size];exact hb7
  by_cases he:b=0
  ·subst he;have h1:=a9k;obtain⟨⟨zero,t⟩,h2,h3⟩:=Option.map_eq_some_iff.1 h1;obtain⟨cs,h4,h5,-⟩:=h.1 _ zero t hgl h2;rw[h4] at ho;injection ho with ho;subst ho;have h6:cs.size=1:=h5.trans h3;have h7:cs[0]?=some (.iface 275 (.agg #[.pointer (some ⟨7,34,none⟩)])):=by
    have:=hL;unfold Laid at this;simpa [World.cell?,h4] using this
   refine .cells _ _ _ fun v hv=>?_;obtain⟨i,hi⟩:=Array.mem_iff_getElem?.1 hv;have hi0:i=0:=by
    have:=(Array.getElem?_eq_some_iff.1 hi).1;omega
   subst hi0;rw[h7] at hi;injection hi with hi;subst hi;refine .iface _ _ rfl (.agg _ fun x hx=>?_);obtain rfl:x=.pointer (some ⟨7,34,none⟩):=by simpa using hx
   exact .ptr _ (Nat.le_refl _)
  ·have hm:b∉((List.range 7).filter fun g=>!b2t g):=by
    rw[b1b];simpa using he
   have hi:b2t b=true:=by
    cases e:b2t b with
    | true=>rfl
    | false=>exact absurd (List.mem_filter.2 ⟨List.mem_range.2 hb7,by rw[e];rfl⟩) hm
   unfold b2t at hi
   cases hr:rowAt b with
   | none=>rw[hr] at hi;cases hi
   | some r=>
    obtain⟨zero,t⟩:=r;rw[hr] at hi;obtain⟨cs,h4,-,h5⟩:=h.1 b zero t hgl hr;rw[h4] at ho;injection ho with ho;subst ho;refine .cells _ _ _ fun v hv=>?_;obtain⟨k,n,rfl⟩:=intRow.cells hi h5 v hv;exact .int _ _
 ·obtain rfl:b=7:=by omega
  have hk:=a8j;unfold a6g at hk
  cases e:(begin Tryz.prog (fun _ _=>0) default).world.heap[7]? with
  | none=>rw[e] at hk;cases hk
  | some o0=>
   rw[e] at hk;have hlt:7<(begin Tryz.prog (fun _ _=>0) default).world.heap.size:=by
    rcases Nat.lt_or_ge 7 (begin Tryz.prog (fun _ _=>0) default).world.heap.size with h|h
    ·exact h
    ·rw[Array.getElem?_eq_none h] at e;cases e
   obtain⟨o1,o2,h1,h2,h3⟩:=h.2 7 (by rw[globals_size];exact Nat.le_refl _) hlt;rw[e] at h2;injection h2 with h2;subst h2;rw[globals_size,if_neg (by decide)] at h3;rw[ho] at h1;injection h1 with h1;subst h1;rw[h3]
   cases o0 with
   | cells c t fr=>
    exact .cells _ _ _ fun v hv=>Zn.vOK.sound _ _ (List.all_eq_true.1 hk v (by simpa using hv))
   | _=>cases hk
end Go.Proofs.YtgpbhjjajpbeeaaGreatDoor
namespace Go.Proofs.YtgpbhjjajpbeeaaGreatDoor
section
open Go.ChangeShapes Go.WideShapes Go.ChangeAt Go.RowKit Go.Joins Go.Lib Pl
structure a8R(W W':World):Prop where
 os:W'.os=W.os
 output:W'.output=W.output
 size:W.heap.size<=W'.heap.size
 block:∀b,b<W.heap.size->W'.heap[b]?=W.heap[b]?
theorem a8R.of_ext{W W':World}(h:Ext W W'):a8R W W':=⟨h.os,h.output,h.size,fun b hb=>h.block b hb⟩
theorem a8R.tp{W W':World}(h:a8R W W')(τ:Nat->Question->Nat)(p:Nat):a8R W (Zn.tp W' τ p):=⟨h.os,h.output,h.size,h.block⟩
namespace zpost
variable{H:Type}{enc:TypeId×Value->H}{P:Program}
theorem post_of_old{f:Func}{s:ChangeSpec}{apart fresh handsOn:Bool}{W W':World}{args:Array Value}{v:Value}{ds gs:List (DataW H)}{before pa pv:List MemPlace}
 (hW:DataW.Whole enc P f.params.toList s.vars apart W args.toList ds gs before)
 (hres:∀(b:Nat)(sp:Nat->Bool)(hd:Bool),DataW.TrodAll enc P W' b sp hd f.resultTypes.toList (v.resultList f.resultTypes.size) (s.fn H (ds++gs)).results [])
 (hargs:∀sp:Nat->Bool,(∀p∈before,sp p.block=true)->DataW.TrodAll enc P W' 0 sp true f.params.toList args.toList (s.fn H (ds++gs)).args pa)
 (hvars:∀sp:Nat->Bool,(∀p∈before,sp p.block=true)->DataW.TrodVars enc P W' sp s.vars (s.fn H (ds++gs)).vars pv)
 (hE:a8R W W'):s.post enc P f apart fresh handsOn false W args v W':=by
 have hold:∀p∈before,(fun b=>decide (b<W.heap.size)) p.block=true:=fun p hp=>by simpa using hW.lt p hp
 refine⟨ds,gs,before,[],pa,pv,hW,hres _ _ _,hargs _ hold,hvars _ hold,⟨hE.os,hE.output,fun i hi=>?_⟩,fun h=>by cases h⟩;rw[hE.block i hi];split<;>simp_all
theorem same_of_old{w w':World}(hE:a8R w w'){p:MemPlace}(h:p.block<w.heap.size):w.sameAt w' p:=by
 have:=hE.block p.block h
 cases p with
 | cell b off=>exact World.cell?_of_block this
 | map b=>exact this
end zpost
end
section
open Go.RowKit Go.Lib Go.Maps Dk Pl
open Go.Conc Go.Mw
open Zn (tp WPs VP Zf Le)
open Fs (So b2v)
instance payloadR:Go.ConcR.Payload:=⟨3⟩
theorem c5d:∀j:Nat,18<=j->j<=24->rX j=false:=by
 intro j h1 h2;have h7:j=18\/j=19\/j=20\/j=21\/j=22\/j=23\/j=24:=by omega
 rcases h7 with rfl|rfl|rfl|rfl|rfl|rfl|rfl<;>rfl
theorem c35(v0 v1:Value)(n:Nat):∀k,2<=k->(#[v0,v1]++Array.replicate n undef).getD k undef=undef:=by
 intro k hk;rw[Array.getD_eq_getD_getElem?,Array.getElem?_append_right (by simpa using hk),Array.getElem?_replicate];split<;>rfl
theorem b1H{l:Fl}(h:(I7 l).1=none):(I7 l).2.1≠0:=by
 cases hm:F5 l H9 with
 | none=>rw[a05 hm];decide
 | some m=>
  cases hr:readMan m with
  | none=>rw[a1z hm hr];decide
  | some x=>
   obtain⟨g,ids⟩:=x
   cases hs:O9 l ids [] with
   | mk o n=>
    cases o with
    | none=>rw[a06 hm hr hs];simp
    | some b=>rw[a2g hm hr hs] at h;cases h
theorem b1I{l:Fl}{x:Nat×List Int×List (List UInt8)}(h:(I7 l).1=some x):(I7 l).2.1=0/\(I7 l).2.2=[]:=by
 refine⟨?_,b1F l (by rw[h];simp)⟩
 cases hm:F5 l H9 with
 | none=>rw[a05 hm] at h;cases h
 | some m=>
  cases hr:readMan m with
  | none=>rw[a1z hm hr] at h;cases h
  | some x=>
   obtain⟨g,ids⟩:=x
   cases hs:O9 l ids [] with
   | mk o n=>
    cases o with
    | none=>rw[a06 hm hr hs] at h;cases h
    | some b=>rw[a2g hm hr hs]
def b5Q(W:World)(v:Value)(W':World):Prop:=v=.bool true/\a8R W W'
theorem b4M(v:Value)(d:Dr)(ba:Option Addr)(bc:Nat)(vs:List Int)(W:World)(h:b09 W v d)(hf:d.Fits 281474976710656)(hS:W.ShapedOpen Tryz.prog)(hL:Laid W)(hP:LaidP W)
 (hv:Ints W (.slice ba vs.length bc) vs):
 So Tryz.prog (b5Q W) (G (Frame.enter Tryz.prog 7 #[v,.slice ba vs.length bc] .normal) []) W:=by
 obtain⟨v0,v1,v3,rfl,hr0,hr1,hr3⟩:=id h;have hbody:Tryz.f7.body=some (rfC 0):=by kernel_rfl
 have hnt:Tryz.f7.ntmps=62:=by kernel_rfl
 have hin:Tryz.prog.inits.idxOf? 7=none:=by kernel_rfl
 rw[enter_at _ Tryz.func7 hbody,hnt];have e3:(#[Value.agg #[v0,v1,.int .u64 d.gen,v3,.bool d.whole,.bool d.without],.slice ba vs.length bc]:Array Value).size=2:=rfl;rw[e3];have hk0:=c35 (.agg #[v0,v1,.int .u64 d.gen,v3,.bool d.whole,.bool d.without]) (.slice ba vs.length bc) (62 - 2);have hT0:(#[Value.agg #[v0,v1,.int .u64 d.gen,v3,.bool d.whole,.bool d.without],.slice ba vs.length bc]++Array.replicate (62 - 2) undef).size=62:=by simp
 have g0:(#[Value.agg #[v0,v1,.int .u64 d.gen,v3,.bool d.whole,.bool d.without],.slice ba vs.length bc]++Array.replicate (62 - 2) undef)[0]?=some (.agg #[v0,v1,.int .u64 d.gen,v3,.bool d.whole,.bool d.without]):=by rw[Array.getElem?_append_left (by simp)];rfl
 have g1:(#[Value.agg #[v0,v1,.int .u64 d.gen,v3,.bool d.whole,.bool d.without],.slice ba vs.length bc]++Array.replicate (62 - 2) undef)[1]?=some (.slice ba vs.length bc):=by rw[Array.getElem?_append_left (by simp)];rfl
 generalize #[Value.agg #[v0,v1,.int .u64 d.gen,v3,.bool d.whole,.bool d.without],.slice ba vs.length bc]++Array.replicate (62 - 2) undef=T0 at hk0 hT0 g0 g1⊢;have hr:=a8y hS;have step:∀(T:Array Value)(i:Nat)(v:Value),T.size=62->i<62->∃T',T.setIfInBounds i v=T'/\T'.size=62/\T'[i]?=some v/\∀k,k≠i->T'[k]?=T[k]?:=fun T i v hs hi=>
  ⟨_,rfl,by rw[Array.size_setIfInBounds,hs],a0m (by omega),fun k hk=>Array.getElem?_setIfInBounds_ne (Ne.symm hk)⟩
 rw[c5G];refine So.move rfl (fun _=>stepG_seq) ?_;refine So.piece pnc (Nm.codeB.sound (show Nm.codeB db (rfP 0)=true by kernel_rfl)) rfl hr (c4Y T0 v0 v1 _ v3 _ _ W hT0 g0) (fun e a' w' q=>by cases e<;>first|exact .inl rfl|exact q.elim) (base 7) rfl [.code (rfC 1)] [] ?_ (fun a' w' todo q=>q.elim);rintro a1 w1 ⟨rfl,rfl⟩ hR1;have hE1:Ext W (W.alloc (.cells (Value.agg #[v0,v1,.int .u64 d.gen,v3,.bool d.whole,.bool d.without]).cells 27)):=(Ext.refl W).new _;have hb1:o7 (W.alloc (.cells (Value.agg #[v0,v1,.int .u64 d.gen,v3,.bool d.whole,.bool d.without]).cells 27)) W.heap.size 27 #[v0,v1,.int .u64 d.gen,v3,.bool d.whole,.bool d.without]:=o7.new _ _ rfl;generalize W.alloc (.cells (Value.agg #[v0,v1,.int .u64 d.gen,v3,.bool d.whole,.bool d.without]).cells 27)=w1 at hR1 hE1 hb1⊢;have hr1':∀g,g<Tryz.prog.globals.size->Nm.IsRow w1 g:=fun g hg=>hR1.2 g (hr g hg);obtain⟨T1a,e1a,s1a,g3a,k1a⟩:=step T0 2 (.pointer (some ⟨W.heap.size,0,none⟩)) hT0 (by decide);rw[e1a];obtain⟨T1,e1b,s1,g6,k1⟩:=step T1a 4 (.bool false) s1a (by decide);rw[e1b];have g3:T1[2]?=some (.pointer (some ⟨W.heap.size,0,none⟩)):=(k1 2 (by decide)).trans g3a;rw[c5H];refine So.move rfl (fun _=>stepG_seq) ?_;refine So.piece pnc (Nm.codeB.sound (show Nm.codeB db (rfP 1)=true by kernel_rfl)) rfl hr1' (c4Z T1 W.heap.size v0 v1 v3 d w1 s1 g3 hb1 (h.ext hE1) hf) (fun e a' w' q=>by cases e<;>first|exact .inl rfl|exact q.elim) (base 7) rfl [.code (rfC 2)] [] ?_ (fun a' w' todo q=>q.elim);rintro a2 w2 ⟨bb,rfl,hsm,hE2⟩ hR2;have hr2:∀g,g<Tryz.prog.globals.size->Nm.IsRow w2 g:=fun g hg=>hR2.2 g (hr1' g hg);obtain⟨T2a,e2a,s2a,-,k2a⟩:=step T1 16 (.agg #[v0,v1,.int .u64 d.gen,v3,.bool d.whole,.bool d.without]) s1 (by decide);rw[e2a];obtain⟨T2b,e2b,s2b,g26,k2b⟩:=step T2a 17 (.bool bb) s2a (by decide);rw[e2b];obtain⟨T2,e2c,s2,g7,k2c⟩:=step T2b 5 (.bool bb) s2b (by decide);rw[e2c];have hE02:=hE1.trans hE2;have kk2:∀k,k≠2->k≠4->k≠5->k≠16->k≠17->T2[k]?=T0[k]?:=fun k h1 h2 h3 h4 h5=>(k2c k h3).trans ((k2b k h5).trans ((k2a k h4).trans ((k1 k h2).trans (k1a k h1))));have g1':T2[1]?=some (.slice ba vs.length bc):=(kk2 1 (by decide) (by decide) (by decide) (by decide) (by decide)).trans g1;rw[c5I];refine So.move rfl (fun _=>stepG_seq) ?_;refine So.piece pnc (Nm.codeB.sound (show Nm.codeB db (rfP 2)=true by kernel_rfl)) rfl hr2 (c41 T2 bb ba vs.length bc w2 s2 g7 g1') (fun e a' w' q=>by cases e<;>first|exact .inl rfl|exact .inr rfl|exact q.elim) (base 7) rfl [.code (rfC 3)] [] ?_ ?_;rotate_left
 ·rintro a' w' todo ⟨q1,q2,rfl⟩ -;refine So.ended (Fs.ended_leave rfl q1 Tryz.func7 hin (resultsC_tmp rfl a'.tmps) fun τ p=>?_);exact⟨G9 q2,(a8R.of_ext hE02).tp τ p⟩
 rintro⟨T3,d3⟩ w3 ⟨hbb,hn3,rfl,hkp,rfl⟩ -;subst hbb;dsimp only at hkp;have s3:T3.size=62:=hkp.size.trans s2;have g3':T3[2]?=some (.pointer (some ⟨W.heap.size,0,none⟩)):=(hkp.keep 2 rfl).trans ((k2c 2 (by decide)).trans ((k2b 2 (by decide)).trans ((k2a 2 (by decide)).trans g3)));have hb3:o7 w3 W.heap.size 27 #[v0,v1,.int .u64 d.gen,v3,.bool d.whole,.bool d.without]:=(hE2.block _ hb1.lt).trans hb1;rw[c5J];refine So.move rfl (fun _=>stepG_seq) ?_;refine So.piece pnc (Nm.codeB.sound (show Nm.codeB db (rfP 3)=true by kernel_rfl)) rfl hr2 (c42 T3 W.heap.size v0 v1 v3 d w3 s3 g3' hb3 (h.ext hE02) (hsm rfl) (hL.ext hE02)) (fun e a' w' q=>by cases e<;>first|exact .inl rfl|exact q.elim) (base 7) rfl [.code (rfC 4)] [] ?_ (fun a' w' todo q=>q.elim);rintro a4 w4 ⟨a,F,D,rfl,hD,hsafe,hfit,hE4,hF⟩ hR4;obtain⟨T4a,e4a,s4a,-,k4a⟩:=step T3 25 (.agg #[v0,v1,.int .u64 d.gen,v3,.bool d.whole,.bool d.without]) s3 (by decide);rw[e4a];obtain⟨T4b,e4b,s4b,g35,k4b⟩:=step T4a 26 (y8 a) s4a (by decide);rw[e4b];obtain⟨T4,e4c,s4,g8,k4c⟩:=step T4b 6 (y8 a) s4b (by decide);rw[e4c];have hE04:=hE02.trans hE4;have g14:T4[1]?=some (.slice ba vs.length bc):=(k4c 1 (by decide)).trans ((k4b 1 (by decide)).trans ((k4a 1 (by decide)).trans ((hkp.keep 1 rfl).trans g1')));have kk4:∀k,k≠6->k≠26->k≠25->cr2 k=false->T4[k]?=T2[k]?:=fun k a1 a2 a3 a4=>(k4c k a1).trans ((k4b k a2).trans ((k4a k a3).trans (hkp.keep k a4)));have hr4:∀g,g<Tryz.prog.globals.size->Nm.IsRow w4 g:=fun g hg=>hR4.2 g (hr2 g hg);rw[c5K];refine So.move rfl (fun _=>stepG_seq) ?_;refine So.piece pnc (Nm.codeB.sound (show Nm.codeB db (rfP 4)=true by kernel_rfl)) rfl hr4 (c43 s4 g8 hD hsafe.calm hfit) (fun e a' w' q=>by cases e<;>first|exact .inl rfl|exact q.elim) (base 7) rfl [.code (rfC 5)] [] ?_ (fun a' w' todo q=>q.elim);rintro⟨T5,d5⟩ w5 ⟨rfl,k5,fv,rows,g7v,hRw,hD5,hC5⟩ hR5;dsimp only at k5 g7v;have hr5:∀g,g<Tryz.prog.globals.size->Nm.IsRow w5 g:=fun g hg=>hR5.2 g (hr4 g hg);have s5:=k5.size.trans s4;rw[c5M];refine So.move rfl (fun _=>stepG_seq) ?_;refine So.piece pnc (Nm.codeB.sound (show Nm.codeB db (rfP 5)=true by kernel_rfl)) rfl hr5 (c44 s5 g7v hRw.files (b8G hD5.wf fun x hx=>hfit.data x hx)) (fun e a' w' q=>by cases e<;>first|exact .inl rfl|exact q.elim) (base 7) rfl [.code (rfC 6)] [] ?_ (fun a' w' todo q=>q.elim);rintro⟨T6,d6⟩ w6 ⟨rfl,k6,v,g8v,g9v,v',ev,hE6,hcs⟩ hR6;dsimp only at k6 g8v g9v;obtain rfl:v'=v:=by
  injection ev with ev;injection ev with ev;have:=congrArg (fun A:Array Value=>A[0]?) ev;simpa using this.symm
 clear ev;have hr6:∀g,g<Tryz.prog.globals.size->Nm.IsRow w6 g:=fun g hg=>hR6.2 g (hr5 g hg);have s6:=k6.size.trans s5;have hC46:Chg F F w4 w6:=hC5.trans (Chg.ext hE6);have g16:T6[1]?=some (.slice ba vs.length bc):=(k6.keep 1 rfl).trans ((k5.keep 1 rfl).trans g14);have oldv:∀w',Chg F F w4 w'->∀b,b<W.heap.size->w'.heap[b]?=W.heap[b]?:=fun w' hC b hb=>(hC.block b (Nat.lt_of_lt_of_le hb hE04.size) fun hf=>by have:=hF b hf;have:=hE02.size;omega).trans (hE04.block b hb);have intsAt:∀w',Chg F F w4 w'->Ints w' (.slice ba vs.length bc) vs:=fun w' hC=>by
  refine Dep.slice hv w' fun b⟨hx,a',n',c',e1,hbb⟩=>oldv w' hC b ?_;obtain⟨a2,c2,e,h1,h2,h3⟩:=hv;injection e1 with p1 p2 p3;injection e with q1 q2 q3;obtain⟨b2,hb2,hc2⟩:=h3 hx;rw[<-q1,p1] at hb2;injection hb2 with hb2;subst hb2;have:vs≠[]:=fun he=>hx (by rw[he];rfl);have hpos:0<(vs.map (Value.int .i64)).length:=by rw[List.length_map];exact List.length_pos_iff.2 this
  have hlt:=World.block_lt_of_cell? W _ (hc2 0 _ (List.getElem?_eq_getElem hpos));have e0:(a'.add 0).block=a'.block:=by unfold Addr.add;split<;>rfl
  rw[e0,hbb] at hlt;exact hlt
 obtain⟨f,hp6,hno⟩:∃f,(rfP 6).wp Tryz.prog (QR6 T6 f w6) ⟨T6,[]⟩ w6/\(f≠0->((I7 D.files).1=none/\f=(I7 D.files).2.1)\/(∃gen ids bss,I7 D.files=(some (gen,ids,bss),0,[])/\a0g ids vs=false/\f=8)):=by
  rcases hcs with⟨h1,h2⟩|⟨gen,ids,bss,rb,h1,h2,h3,h4,_,h5⟩
  ·by_cases hz:(I7 D.files).2.1=0
   ·exfalso;exact b1H h1 hz
   ·exact⟨_,b7v T6 _ w6 s6 g9v hz,fun _=>.inl ⟨h1,rfl⟩⟩
  ·obtain⟨hz,hnm⟩:=b1I h1;rw[hz] at g9v;rw[h4] at g8v;refine⟨_,c0g T6 w6 s6 g9v g8v g16 h5.get (intsAt w6 hC46) h2.1 hn3,fun hf=>.inr ⟨gen,ids,bss,Prod.ext h1 (Prod.ext hz hnm),?_,?_⟩⟩
   ·cases hck:a0g ids vs with
    | false=>rfl
    | true=>rw[hck] at hf;exact absurd rfl hf
   ·cases hck:a0g ids vs with
    | false=>rfl
    | true=>rw[hck] at hf;exact absurd rfl hf
 rw[c5N];refine So.move rfl (fun _=>stepG_seq) ?_;refine So.piece pnc (Nm.codeB.sound (show Nm.codeB db (rfP 6)=true by kernel_rfl)) rfl hr6 hp6 (fun e a' w' q=>by cases e<;>first|exact .inl rfl|exact q.elim) (base 7) rfl [.code (rfC 7)] [] ?_ (fun a' w' todo q=>q.elim);rintro⟨T7,d7⟩ w7 ⟨rfl,k7,g97,hE7⟩ hR7;dsimp only at k7 g97;have hr7:∀g,g<Tryz.prog.globals.size->Nm.IsRow w7 g:=fun g hg=>hR7.2 g (hr6 g hg);have s7:=k7.size.trans s6;have hE57:=hE6.trans hE7;have hC47:Chg F F w4 w7:=hC46.trans (Chg.ext hE7);rw[c5O];refine So.move rfl (fun _=>stepG_seq) ?_;refine So.piece pnc (Nm.codeB.sound (show Nm.codeB db (rfP 7)=true by kernel_rfl)) rfl hr7 (c5a T7 f w7 s7 g97) (fun e a' w' q=>by cases e<;>first|exact .inl rfl|exact .inr rfl|exact q.elim) (base 7) rfl [.code (rfC 8)] [] ?_ ?_;rotate_left
 ·rintro a' w' todo ⟨q1,q2,rfl⟩ -;refine So.ended (Fs.ended_leave rfl q1 Tryz.func7 hin (resultsC_tmp rfl a'.tmps) fun τ p=>?_);exact⟨G9 q2,(a8R.mk (W:=W) (hC47.os.trans hE04.os) (hC47.output.trans hE04.output) (Nat.le_trans hE04.size hC47.size) (oldv _ hC47)).tp τ p⟩
 rintro⟨T8,d8⟩ w8 ⟨hf0,rfl,k8,rfl⟩ -;dsimp only at k8;have s8:=k8.size.trans s7;have hno:=hno hf0;have hD8:A8 w8 F a D:=hD5.ext hE57;have hRw8:a0d w8 w4.heap.size fv rows D.files:=hRw.keep fun b _ h2=>hE57.block b h2;obtain⟨m1,m2,mv,gs,dv,hrep⟩:=id hD8;have h7W:7<W.heap.size:=by
  rcases Nat.lt_or_ge 7 W.heap.size with h|h
  ·exact h
  ·have hh:=a8j;unfold a6g at hh
   cases e:(begin Tryz.prog (fun _ _=>0) default).world.heap[7]? with
   | none=>rw[e] at hh;cases hh
   | some o0=>
    have hlt:7<(begin Tryz.prog (fun _ _=>0) default).world.heap.size:=by
     rcases Nat.lt_or_ge 7 (begin Tryz.prog (fun _ _=>0) default).world.heap.size with h|h
     ·exact h
     ·rw[Array.getElem?_eq_none h] at e;cases e
    obtain⟨o1,o2,q1,-⟩:=hS.2 7 (by rw[globals_size];exact Nat.le_refl _) hlt;rw[Array.getElem?_eq_none h] at q1;cases q1
 have hbase:∀b o,b<=7->w8.heap[b]?=some o->Zn.ObjP zone o:=fun b o hb ho=>b6n hS hL b o hb (by rw[<-oldv w8 hC47 b (by omega)];exact ho);have h78:7<w8.heap.size:=Nat.lt_of_lt_of_le h7W (Nat.le_trans hE04.size hC47.size);obtain⟨hW8,hva,hvf⟩:=hrep.wpsR hRw8 hbase h78;have hF7:∀b,F b->7<b:=fun b hb=>by have:=hF b hb;have:=hE02.size;omega
 letI:To.Lo:=⟨w8.heap.size⟩
 have c6:T8[6]?=some (y8 a):=(k8.keep 6 rfl).trans ((k7.keep 6 rfl).trans ((k6.keep 6 rfl).trans ((k5.keep 6 rfl).trans g8)));have c7:T8[7]?=some fv:=(k8.keep 7 rfl).trans ((k7.keep 7 rfl).trans ((k6.keep 7 rfl).trans g7v));have c9:T8[9]?=some (.int .i64 f):=(k8.keep 9 rfl).trans g97;have c1:T8[1]?=some (.slice ba vs.length bc):=(k8.keep 1 rfl).trans ((k7.keep 1 rfl).trans g16);have hI:To.Iv zone (a5l a m1 m2 mv gs dv D.ids fv rows w8.heap.size) (fun k=>rX k=true) ⟨T8,[]⟩ w8:=by
  refine⟨fun k hk=>?_,fun d hd=>(by cases hd),hW8⟩;show VP _ (T8.getD k undef);by_cases e6:k=6
  ·subst e6;rw[G9 c6];exact hva
  by_cases e7:k=7
  ·subst e7;rw[G9 c7];exact hvf
  by_cases e9:k=9
  ·subst e9;rw[G9 c9];exact .int _ _
  have low:k=4\/11<=k:=by
   have hk':rX k=true:=hk;unfold rX at hk';simp at hk';rcases hk' with((((h|h)|h)|h)|h)|h
   ·exact .inl h
   ·exact absurd h e6
   ·exact absurd h e7
   ·exact absurd h e9
   ·exact .inr h.1
   ·exact .inr (Nat.le_trans (by decide) h)
  have ks:∀ch:Nat->Bool,(ch 4=false)->(∀j,11<=j->rX j=true->ch j=false)->ch k=false:=fun ch h4 h11=>by
   rcases low with h|h
   ·rw[h];exact h4
   ·exact h11 k h hk
  have e8:cr7 k=false:=ks cr7 rfl fun j hj hx=>by
   cases hc:cr7 j with
   | false=>rfl
   | true=>exfalso;unfold cr7 at hc;simp at hc;rcases hc with rfl|rfl<;>cases hx
  have ee6:cr6 k=false:=ks cr6 rfl fun j hj hx=>by
   cases hc:cr6 j with
   | false=>rfl
   | true=>exfalso;unfold cr6 at hc;simp at hc;rcases hc with((((rfl|rfl)|rfl)|rfl)|rfl)|rfl<;>first|exact absurd hj (by decide)|cases hx
  have ee5:cr5 k=false:=ks cr5 rfl fun j hj hx=>by
   cases hc:cr5 j with
   | false=>rfl
   | true=>exfalso;unfold cr5 at hc;simp at hc;rcases hc with(((((((rfl|rfl)|rfl)|rfl)|rfl)|rfl)|rfl)|rfl)|rfl<;>first|exact absurd hj (by decide)|cases hx
  have ee4:cr4 k=false:=ks cr4 rfl fun j hj hx=>by
   cases hc:cr4 j with
   | false=>rfl
   | true=>exfalso;unfold cr4 at hc;simp at hc;rcases hc with(rfl|rfl)|rfl<;>first|exact absurd hj (by decide)|cases hx
  have ee2:cr2 k=false:=ks cr2 rfl fun j hj hx=>by
   cases hc:cr2 j with
   | false=>rfl
   | true=>
    exfalso;unfold cr2 at hc;simp at hc;rw[c5d j hc.1 hc.2] at hx;cases hx
  have gx:∀j,rX j=false->k≠j:=fun j hj e=>by
   have hk':rX k=true:=hk;rw[e,hj] at hk';cases hk'
  rw[Array.getD_eq_getD_getElem?,k8.keep k e8,k7.keep k ee6,k6.keep k ee5,k5.keep k ee4,kk4 k e6 (gx 26 rfl) (gx 25 rfl) ee2];rw[k2c k (gx 5 rfl),k2b k (gx 17 rfl),k2a k (gx 16 rfl)];by_cases e4:k=4
  ·subst e4;rw[g6];exact .bool _
  rw[k1 k e4,k1a k (gx 2 rfl),<-Array.getD_eq_getD_getElem?,hk0 k (by
   rcases low with h|h
   ·exact absurd h e4
   ·exact Nat.le_trans (by decide) h)]
  exact Zn.vp_undef
 refine So.to (Sh:=a5l a m1 m2 mv gs dv D.ids fv rows w8.heap.size) (Nat.le_refl _) (Fs.to_body (f:=7) rfl rfl Tryz.func7 hin ?_);have hLP:Held w8 F LaidP:=(((LaidP.held hP).lift hE04 fun b hb=>by have:=hF b hb;have:=hE02.size;omega):Held w4 F LaidP).step hC47;have hL8:Laid w8:=by
  unfold Laid at hL⊢;exact(World.cell?_of_block (oldv w8 hC47 _ (cell_lt hL))).trans hL
 have hcb:=c2c (F:=F) (a:=a) (D:=D) (Sh:=a5l a m1 m2 mv gs dv D.ids fv rows w8.heap.size) hI s8 c1 c6 c7 c9 (by rw[globals_size];omega) hD8 hsafe.calm hfit hL8 hF7 hLP hn3 (hRw8.held fun b hb=>hD.low b hb) (fun j hj=>by
  obtain⟨a2,c2,e,-,-,hcell⟩:=hv.open;injection e with e1 e2 e3;subst e1;obtain⟨b,rfl,hc⟩:=hcell j hj;have eb:(b.add j).block=b.block:=by unfold Addr.add;split<;>rfl
  have hlt:b.block<W.heap.size:=by rw[<-eb];exact World.block_lt_of_cell? W _ hc
  refine⟨b,rfl,?_,Nat.lt_of_lt_of_le hlt (Nat.le_trans hE04.size hC47.size),fun hf=>by have:=hF _ hf;have:=hE02.size;omega⟩;rw[List.getD_eq_getElem?_getD,List.getElem?_eq_getElem hj];exact(World.cell?_of_block (oldv w8 hC47 _ (by rw[eb];exact hlt))).trans hc) hno
 refine To.wpT_mono hcb fun e a' w' Sh' q=>?_;have hpost:∀v,(v=Value.bool true/\Chh F w8 w')->∀τ p,b5Q W v (tp w' τ p):=fun v⟨hv,hC⟩τ p=>
  ⟨hv,(a8R.mk (W:=W) (W':=w') (hC.os.trans (hC47.os.trans hE04.os)) (hC.output.trans (hC47.output.trans hE04.output)) (Nat.le_trans (Nat.le_trans hE04.size hC47.size) hC.size) fun b hb=>(hC.block b (Nat.lt_of_lt_of_le hb (Nat.le_trans hE04.size hC47.size)) fun hF'=>by have:=hF b hF';have:=hE02.size;omega).trans (oldv w8 hC47 b hb)).tp τ p⟩
 cases e with
 | normal=>
  obtain⟨q1,v,q2,q3⟩:=q
  exact⟨q1,v,q2,hpost v q3⟩
 | ret=>
  obtain⟨q1,v,q2,q3⟩:=q
  exact⟨q1,v,q2,hpost v q3⟩
 | exit id=>exact q.elim
 | goto l=>exact q.elim
 | panic ch=>exact q.elim
 | outgrown=>exact q.elim
end
section
open Go.ChangeShapes Go.WideShapes Go.ChangeAt Go.RowKit Go.Joins Go.Lib Pl Go.Deep
namespace zopen
variable{H:Type}{enc:TypeId×Value->H}{W:World}
noncomputable abbrev Rd(enc:TypeId×Value->H)(W:World)(n:Nat)(t:TypeId)(cs:List Value):Option (DataW H×List MemPlace):=DataW.trod enc Tryz.prog W 0 (fun _=>true) true n t cs
def Wt(d:DataW H)(t:TypeId)(B:Nat):Prop:=∀n∈d.weights Tryz.prog t,n<=B
theorem a8d{n:Nat}{v:Value}{y:DataW H×List MemPlace}(h:Rd enc W n 25 [v]=some y):∃l:List UInt8,Bytes W v l/\∀B,Wt y.1 25 B->l.length<=B:=by
 rcases open_ints Tryz.underlying25 Tryz.underlying5 (by kernel_rfl) h with⟨hcs,hx⟩|⟨a,len,cap,zs,hcs,hb,hl,hm,hz,hx,hcell,hwz⟩
 ·simp only[List.cons.injEq,and_true] at hcs;subst hcs;exact⟨[],⟨none,0,rfl,Nat.le_refl _,⟨by omega,fun _=>rfl⟩,fun h=>absurd rfl h⟩,fun B _=>by simp⟩
 ·simp only[List.cons.injEq,and_true] at hcs;subst hcs;simp only[if_true] at hz;have hlen:(zs.take len).length=len:=by rw[List.length_take];omega
  have hmap:((zs.take len).map fun n=>UInt8.ofNat n.toNat).map byteV=(zs.take len).map (Value.int .u8):=by
   rw[List.map_map];apply List.map_congr_left;intro n hn;have:=hwz n (List.mem_of_mem_take hn);simp only[Lit.wf,Bool.and_eq_true,decide_eq_true_eq] at this;have h0:(0:Int)<=n:=this.1;have h1:n<=255:=this.2;simp only[Function.comp,byteV,Value.int.injEq,true_and];rw[UInt8.toNat_ofNat_of_lt' (by show n.toNat<256;omega)];omega
  refine⟨(zs.take len).map fun n=>UInt8.ofNat n.toNat,?_,fun B hB=>?_⟩
  ·unfold Bytes;rw[hmap,List.length_map,hlen];refine⟨_,_,rfl,hl,⟨hm,fun h=>by cases h⟩,fun _=>⟨a,rfl,fun i x hi=>?_⟩⟩;rw[List.getElem?_map,List.getElem?_take] at hi;split at hi
   ·have hil:i<zs.length:=by omega
    have hce:=hcell i hil;rw[List.getD_eq_getElem?_getD] at hce;rw[List.getElem?_eq_getElem hil] at hi hce;injection hi with hi;rw[<-hi];exact hce
   ·cases hi
  ·rw[List.length_map,hlen];subst hx;have e2:=hB (((lits (H:=H) .u8 (zs.take len)).length+(lits (H:=H) .u8 (zs.drop len)).length)*Tryz.prog.bytesOf 5) (by simp[DataW.weights,Tryz.underlying25]);have e3:(lits (H:=H) .u8 (zs.take len)).length=len:=by rw[<-hlen];simp[lits]
   rw[e3,show Tryz.prog.bytesOf 5=1 by kernel_rfl] at e2;omega
theorem b8E{e:TypeId}:∀{l:List (DataW H)}{d:DataW H},d∈l->∀n∈d.weights Tryz.prog e,n∈DataW.weightsAll Tryz.prog e l
 | x::l,d,hd,n,hn=>by
  rcases List.mem_cons.1 hd with rfl|hd
  ·exact List.mem_append.2 (.inl hn)
  ·exact List.mem_append.2 (.inr (b8E hd n hn))
theorem row_in{α:Type}[Inhabited α]{t e:TypeId}{sz:Nat}(ht:Tryz.prog.underlying t=some (.slice e))(hsz:Tryz.prog.cellsOf e=sz)(at_:World->Addr->α->Prop)(fits:α->Nat->Prop)
 (hel:∀(b:Addr)(n:Nat)(cs:List Value)(y:DataW H×List MemPlace),W.cells? 0 b sz=some cs->Rd enc W n e cs=some y->∃x,at_ W b x/\∀B,Wt y.1 e B->fits x B)
 {n:Nat}{v:Value}{y:DataW H×List MemPlace}(h:Rd enc W n t [v]=some y):∃l:List α,RowOf W v l sz at_/\∀B,Wt y.1 t B->∀x∈l,fits x B:=by
 rcases open_slice ht h with⟨hcs,hx⟩|⟨a,len,cap,m,k,D,Pl,hcs,hb,hl,hm,hmm,hy,hi⟩
 ·simp only[List.cons.injEq,and_true] at hcs;subst hcs;exact⟨[],⟨none,0,rfl,Nat.le_refl _,by omega,fun i x hx=>by cases hx⟩,fun B _ x hx=>by cases hx⟩
 ·simp only[List.cons.injEq,and_true] at hcs;subst hcs;simp only[if_true] at hmm;rw[hsz] at hi;obtain⟨f,hf⟩:=choose_lt (p:=fun i x=>at_ W (a.add (i*sz)) x/\∀B,Wt (D i) e B->fits x B) (fun i hil=>by
   obtain⟨cs,h1,h2⟩:=hi i hil;exact hel _ _ _ _ h1 h2)
  have hml:maxLen<=9223372036854775807:=by unfold maxLen;omega
  refine⟨(List.range len).map f,⟨some a,cap,by simp,by simpa using hl,by omega,fun i x hx=>?_⟩,fun B hB x hx=>?_⟩
  ·rw[List.getElem?_map] at hx;obtain⟨j,hj,rfl⟩:=Option.map_eq_some_iff.1 hx;rw[List.getElem?_range] at hj
   ·injection hj with hj;subst hj;exact⟨a,rfl,(hf i (by
     have:i<len:=by
      rcases Nat.lt_or_ge i len with h|h
      ·exact h
      ·rw[List.getElem?_eq_none (by simpa using h)] at hx;cases hx
     omega)).1⟩
   ·rcases Nat.lt_or_ge i len with h|h
    ·exact h
    ·rw[List.getElem?_eq_none (by simpa using h)] at hx;cases hx
  ·obtain⟨i,hil,rfl⟩:=List.mem_map.1 hx;have hil':i<len:=List.mem_range.1 hil;refine(hf i (by omega)).2 B fun n hn=>hB n ?_;subst hy;have:n∈DataW.weightsAll Tryz.prog e ((List.range len).map D):=b8E (List.mem_map.2 ⟨i,hil,rfl⟩) n hn;unfold DataW.weights;rw[ht];exact List.mem_cons.2 (.inr (List.mem_append.2 (.inl this)))
theorem c4k{cs:List Value}(h:cs.length=3):∃c0 c1 c2,cs=[c0,c1,c2]:=by
 match cs,h with
 | [c0,c1,c2],_=>exact⟨c0,c1,c2,rfl⟩
theorem list4{cs:List Value}(h:cs.length=4):∃c0 c1 c2 c3,cs=[c0,c1,c2,c3]:=by
 match cs,h with
 | [c0,c1,c2,c3],_=>exact⟨c0,c1,c2,c3,rfl⟩
theorem c4l{cs:List Value}(h:cs.length=5):∃c0 c1 c2 c3 c4,cs=[c0,c1,c2,c3,c4]:=by
 match cs,h with
 | [c0,c1,c2,c3,c4],_=>exact⟨c0,c1,c2,c3,c4,rfl⟩
theorem c4m{cs:List Value}(h:cs.length=6):∃c0 c1 c2 c3 c4 c5,cs=[c0,c1,c2,c3,c4,c5]:=by
 match cs,h with
 | [c0,c1,c2,c3,c4,c5],_=>exact⟨c0,c1,c2,c3,c4,c5,rfl⟩
theorem c3g:Tryz.prog.cellsOf 4=1:=by kernel_rfl
theorem c4n:Tryz.prog.cellsOf 3=1:=by kernel_rfl
theorem c4o:Tryz.prog.cellsOf 9=1:=by kernel_rfl
theorem c4p:Tryz.prog.cellsOf 22=1:=by kernel_rfl
theorem c4q:Tryz.prog.cellsOf 23=1:=by kernel_rfl
theorem c2K:Tryz.prog.cellsOf 24=1:=by kernel_rfl
theorem b8F:Tryz.prog.cellsOf 25=1:=by kernel_rfl
theorem c4r:Tryz.prog.cellsOf 92=1:=by kernel_rfl
theorem a0X(b:Addr){n:Nat}(h:n≠0):b.add n=⟨b.block,b.off+n,none⟩:=by unfold Addr.add;rw[if_neg h]
theorem add_zero(b:Addr):b.add 0=b:=rfl
theorem c4s(b:Addr)(n:Nat)(cs:List Value)(y:DataW H×List MemPlace)(hc:W.cells? 0 b 4=some cs)(h:Rd enc W n 111 cs=some y):∃r,b07 W b r/\∀B,Wt y.1 111 B->r.key.size<=B/\r.val.size<=B:=by
 obtain⟨-,hl,hcell⟩:=World.cells?_some hc;obtain⟨c0,c1,c2,c3,rfl⟩:=list4 hl;obtain⟨y0,y1,y2,y3,k,rfl,-,h0,h1,h2,h3⟩:=trod_struct4 Tryz.underlying111 h;simp only[c2K,c4o,c3g,List.drop_succ_cons,List.drop_zero,List.take_succ_cons,List.take_zero] at h0 h1 h2 h3;obtain⟨a,e0,rfl,wa⟩:=DataW.trod_int Tryz.underlying24 h0;obtain⟨ky,e1,rfl,hk⟩:=DataW.trod_string Tryz.underlying9 h1;obtain⟨v,e2,rfl,hv⟩:=DataW.trod_string Tryz.underlying9 h2;obtain⟨d,e3,rfl⟩:=DataW.trod_bool Tryz.underlying4 h3;simp only[List.cons.injEq,and_true] at e0 e1 e2 e3;subst e0;subst e1;subst e2;subst e3;have wa0:0<=a:=by
  have:=wa;simp only[Lit.wf,Bool.and_eq_true,decide_eq_true_eq] at this;exact this.1
 obtain⟨seq,rfl⟩:=Int.eq_ofNat_of_zero_le wa0;refine⟨⟨seq,ky,v,d⟩,⟨hcell 0 (by omega),(a0X b (n:=1) (by omega))▸hcell 1 (by omega),(a0X b (n:=2) (by omega))▸hcell 2 (by omega),(a0X b (n:=3) (by omega))▸hcell 3 (by omega)⟩,fun B hB=>?_⟩;have m0:=hB ky.size (by simp[DataW.weights,DataW.weightsEach,Tryz.underlying111,J3]);have m1:=hB v.size (by simp[DataW.weights,DataW.weightsEach,Tryz.underlying111,J3]);exact⟨m0,m1⟩
instance:Inhabited Rc:=⟨⟨0,.empty,.empty,false⟩⟩
instance:Inhabited Sg:=⟨⟨0,[],[],false,false⟩⟩
instance:Inhabited Ot:=⟨⟨.empty,0,[]⟩⟩
theorem c4t(b:Addr)(n:Nat)(cs:List Value)(y:DataW H×List MemPlace)(hc:W.cells? 0 b 3=some cs)(h:Rd enc W n 113 cs=some y):∃r,b08 W b r/\∀B,Wt y.1 113 B->r.name.size<=B/\r.bytes.length<=B:=by
 obtain⟨-,hl,hcell⟩:=World.cells?_some hc;obtain⟨c0,c1,c2,rfl⟩:=c4k hl;obtain⟨y0,y1,y2,k,rfl,-,h0,h1,h2⟩:=trod_struct3 Tryz.underlying113 h;simp only[c4n,c4o,b8F,List.drop_succ_cons,List.drop_zero,List.take_succ_cons,List.take_zero] at h0 h1 h2;obtain⟨ky,e0,rfl,hk⟩:=DataW.trod_string Tryz.underlying9 h0;obtain⟨a,e1,rfl,wa⟩:=DataW.trod_int Tryz.underlying3 h1;obtain⟨l,hb,hw⟩:=a8d h2;simp only[List.cons.injEq,and_true] at e0 e1;subst e0;subst e1;refine⟨⟨ky,a,l⟩,⟨c2,hcell 0 (by omega),(a0X b (n:=1) (by omega))▸hcell 1 (by omega),(a0X b (n:=2) (by omega))▸hcell 2 (by omega),hb⟩,fun B hB=>⟨?_,?_⟩⟩
 ·exact hB ky.size (by simp[DataW.weights,DataW.weightsEach,Tryz.underlying113,J3])
 ·exact hw B fun n hn=>hB n (by
   unfold DataW.weights;rw[Tryz.underlying113];exact DataW.weights_mem_each (j:=2) (t:=25) rfl rfl n hn)
theorem b04{t:TypeId}{f0 f1 f2 f3 f4:Field}{fuel:Nat}{cs:List Value}{x:DataW H×List MemPlace}(ht:Tryz.prog.underlying t=some (.struct #[f0,f1,f2,f3,f4]))(h:Rd enc W fuel t cs=some x):
 ∃y0 y1 y2 y3 y4 n,x.1=.agg [y0.1,y1.1,y2.1,y3.1,y4.1]/\Rd enc W n f0.type ((cs.drop f0.offset).take (Tryz.prog.cellsOf f0.type))=some y0/\
  Rd enc W n f1.type ((cs.drop f1.offset).take (Tryz.prog.cellsOf f1.type))=some y1/\Rd enc W n f2.type ((cs.drop f2.offset).take (Tryz.prog.cellsOf f2.type))=some y2/\
  Rd enc W n f3.type ((cs.drop f3.offset).take (Tryz.prog.cellsOf f3.type))=some y3/\Rd enc W n f4.type ((cs.drop f4.offset).take (Tryz.prog.cellsOf f4.type))=some y4:=by
 obtain⟨xs,n,_,rfl,hl,hlen,hf⟩:=DataW.trod_struct ht h
 match xs,hlen with
 | [y0,y1,y2,y3,y4],_=>exact⟨y0,y1,y2,y3,y4,n,by simp,by simpa using hf 0 f0 rfl,by simpa using hf 1 f1 rfl,by simpa using hf 2 f2 rfl,by simpa using hf 3 f3 rfl,by simpa using hf 4 f4 rfl⟩
theorem b05{t:TypeId}{f0 f1 f2 f3 f4 f5:Field}{fuel:Nat}{cs:List Value}{x:DataW H×List MemPlace}(ht:Tryz.prog.underlying t=some (.struct #[f0,f1,f2,f3,f4,f5]))(h:Rd enc W fuel t cs=some x):
 ∃y0 y1 y2 y3 y4 y5 n,x.1=.agg [y0.1,y1.1,y2.1,y3.1,y4.1,y5.1]/\Rd enc W n f0.type ((cs.drop f0.offset).take (Tryz.prog.cellsOf f0.type))=some y0/\
  Rd enc W n f1.type ((cs.drop f1.offset).take (Tryz.prog.cellsOf f1.type))=some y1/\Rd enc W n f2.type ((cs.drop f2.offset).take (Tryz.prog.cellsOf f2.type))=some y2/\
  Rd enc W n f3.type ((cs.drop f3.offset).take (Tryz.prog.cellsOf f3.type))=some y3/\Rd enc W n f4.type ((cs.drop f4.offset).take (Tryz.prog.cellsOf f4.type))=some y4/\
  Rd enc W n f5.type ((cs.drop f5.offset).take (Tryz.prog.cellsOf f5.type))=some y5:=by
 obtain⟨xs,n,_,rfl,hl,hlen,hf⟩:=DataW.trod_struct ht h
 match xs,hlen with
 | [y0,y1,y2,y3,y4,y5],_=>exact⟨y0,y1,y2,y3,y4,y5,n,by simp,by simpa using hf 0 f0 rfl,by simpa using hf 1 f1 rfl,by simpa using hf 2 f2 rfl,by simpa using hf 3 f3 rfl,by simpa using hf 4 f4 rfl,by simpa using hf 5 f5 rfl⟩
theorem c4u(b:Addr)(n:Nat)(cs:List Value)(y:DataW H×List MemPlace)(hc:W.cells? 0 b 5=some cs)(h:Rd enc W n 94 cs=some y):
 ∃s,a9j W b s/\∀B,Wt y.1 94 B->s.tail.length<=B/\∀r∈s.recs,r.key.size<=B/\r.val.size<=B:=by
 obtain⟨-,hl,hcell⟩:=World.cells?_some hc;obtain⟨c0,c1,c2,c3,c4,rfl⟩:=c4l hl;obtain⟨y0,y1,y2,y3,y4,k,hy,h0,h1,h2,h3,h4⟩:=b04 Tryz.underlying94 h;simp only[c4n,c4r,b8F,c3g,List.drop_succ_cons,List.drop_zero,List.take_succ_cons,List.take_zero] at h0 h1 h2 h3 h4;obtain⟨a,e0,rfl,wa⟩:=DataW.trod_int Tryz.underlying3 h0;obtain⟨rs,hr,hrw⟩:=row_in (α:=Rc) (sz:=4) Tryz.underlying92 (by kernel_rfl) b07 (fun r B=>r.key.size<=B/\r.val.size<=B) c4s h1;obtain⟨l,hb,hw⟩:=a8d h2;obtain⟨d3,e3,rfl⟩:=DataW.trod_bool Tryz.underlying4 h3;obtain⟨d4,e4,rfl⟩:=DataW.trod_bool Tryz.underlying4 h4;simp only[List.cons.injEq,and_true] at e0 e3 e4;subst e0;subst e3;subst e4;refine⟨⟨a,rs,l,d3,d4⟩,⟨c1,c2,hcell 0 (by omega),(a0X b (n:=1) (by omega))▸hcell 1 (by omega),(a0X b (n:=2) (by omega))▸hcell 2 (by omega),(a0X b (n:=3) (by omega))▸hcell 3 (by omega),(a0X b (n:=4) (by omega))▸hcell 4 (by omega),hr,hb⟩,fun B hB=>?_⟩;unfold Wt at hB;rw[hy] at hB;have hm:∀j t d,([3,92,25,4,4]:List TypeId)[j]?=some t->([DataW.lit (.int .i64 a),y1.1,y2.1,.lit (.bool d3),.lit (.bool d4)]:List (DataW H))[j]?=some d->Wt d t B:=fun j t d e1 e2 n hn=>hB n (by
  unfold DataW.weights;rw[Tryz.underlying94];exact DataW.weights_mem_each e1 e2 n hn)
 exact⟨hw B (hm 2 25 _ rfl rfl),hrw B (hm 1 92 _ rfl rfl)⟩
theorem dr_in{base:Nat}{v:Value}{d:DataW H}{p:List MemPlace}(hval:Value.okWide Tryz.prog W .any base 27 v)(h:DataW.Trod enc Tryz.prog W 0 (fun _=>true) true 27 v d p):
 ∃D:Dr,b09 W v D/\∀B,Wt d 27 B->D.Fits B:=by
 obtain⟨cs,rfl,hsz⟩:=okWide_struct Tryz.underlying27 hval;obtain⟨n,h⟩:=h;have hl:cs.toList.length=6:=by
  have e:Tryz.prog.cellsOf 27=6:=by kernel_rfl
  rw[Array.length_toList,hsz];exact e
 obtain⟨c0,c1,c2,c3,c4,c5,hcs⟩:=c4m hl;obtain rfl:cs=#[c0,c1,c2,c3,c4,c5]:=by cases cs;simp_all
 obtain⟨y0,y1,y2,y3,y4,y5,k,hy,h0,h1,h2,h3,h4,h5⟩:=b05 Tryz.underlying27 h;simp only[Value.cells,c4p,c4q,c2K,b8F,c3g,List.drop_succ_cons,List.drop_zero,List.take_succ_cons,List.take_zero] at h0 h1 h2 h3 h4 h5;obtain⟨ss,hs,hsw⟩:=row_in (α:=Sg) (sz:=5) Tryz.underlying22 (by kernel_rfl) a9j (fun s B=>s.tail.length<=B/\∀r∈s.recs,r.key.size<=B/\r.val.size<=B) c4u h0;obtain⟨os,ho,how⟩:=row_in (α:=Ot) (sz:=3) Tryz.underlying23 (by kernel_rfl) b08 (fun r B=>r.name.size<=B/\r.bytes.length<=B) c4t h1;obtain⟨a,e2,rfl,wa⟩:=DataW.trod_int Tryz.underlying24 h2;obtain⟨l,hb,hw⟩:=a8d h3;obtain⟨d4,e4,rfl⟩:=DataW.trod_bool Tryz.underlying4 h4;obtain⟨d5,e5,rfl⟩:=DataW.trod_bool Tryz.underlying4 h5;simp only[List.cons.injEq,and_true] at e2 e4 e5;subst e2;subst e4;subst e5;have wa0:0<=a:=by
  have:=wa;simp only[Lit.wf,Bool.and_eq_true,decide_eq_true_eq] at this;exact this.1
 obtain⟨g,rfl⟩:=Int.eq_ofNat_of_zero_le wa0;refine⟨⟨ss,os,g,l,d4,d5⟩,⟨c0,c1,c3,rfl,hs,ho,hb⟩,fun B hB=>?_⟩;have hy':d=.agg [y0.1,y1.1,.lit (.int .u64 (g:Int)),y3.1,.lit (.bool d4),.lit (.bool d5)]:=hy;unfold Wt at hB;rw[hy'] at hB;have hm:∀j t d,([22,23,24,25,4,4]:List TypeId)[j]?=some t->([y0.1,y1.1,.lit (.int .u64 (g:Int)),y3.1,.lit (.bool d4),.lit (.bool d5)]:List (DataW H))[j]?=some d->Wt d t B:=fun j t d e1 e2 n hn=>hB n (by
  unfold DataW.weights;rw[Tryz.underlying27];exact DataW.weights_mem_each e1 e2 n hn)
 have q0:=hsw B (hm 0 22 _ rfl rfl);exact⟨fun s hs=>(q0 s hs).1,fun s hs=>(q0 s hs).2,how B (hm 1 23 _ rfl rfl)⟩
end zopen
end
end Go.Proofs.YtgpbhjjajpbeeaaGreatDoor
