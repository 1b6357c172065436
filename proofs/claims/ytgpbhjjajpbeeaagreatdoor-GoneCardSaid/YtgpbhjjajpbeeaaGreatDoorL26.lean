/- A part of what the last file proves. -/
import Derived.Test.YtgpbhjjajpbeeaaGreatDoorL23
import Derived.Test.YtgpbhjjajpbeeaaGreatDoorL25
import Derived.Test.YtgpbhjjajpbeeaaGreatDoorCards
import Derived.Test.YtgpbhjjajpbeeaaGreatDoorTie
import Derived.ProofKit
import Derived.OpenShut
import Derived.Deep.DeepHandedRow
import Derived.Deep.DeepLaidRun
import Derived.Deep.Slices
import Derived.WideKeyArgs
import Derived.LaidLaws
import Derived.LaidHandle
import Derived.Leaving
import Derived.Conc.Holds
import Derived.Lib.LaidTab
import Derived.Lib.SmallJoins
import Derived.SizedLaws
set_option linter.all false
set_option maxRecDepth 100000
namespace Go.Proofs.YtgpbhjjajpbeeaaGreatDoor
section
open Go.RowKit Go.Nm Go.Extern
theorem b4I:Tryz.prog.funcs.toList.all (fun f=>match f.body with|some c=>(readies c).all fun g=>decide (g<7)|none=>true)=true:=by kernel_rfl
theorem b4J(g:Nat)(hg:Tryz.prog.globals.size<=g):Tryz.prog.stepOf g=none:=by
 rw[globals_size] at hg;unfold Program.stepOf;rw[Array.findIdx?_eq_none_iff];intro f hf;have:=List.all_eq_true.1 b4I f (by simpa using hf)
 cases hb:f.body with
 | none=>rfl
 | some c=>
  rw[hb] at this;dsimp only at this;simp only[Option.map_some,Option.any_some]
  cases hc:(readies c).contains g with
  | false=>rfl
  | true=>
   exfalso;have h1:=List.all_eq_true.1 this g (by simpa using hc);have:=of_decide_eq_true h1;omega
theorem a8X{fn:Func}{x:Array Value->Sem Value}(hn:Extern.findNext fn=none)(hf:Extern.find fn=some x)(hx:∀args,Mf Tryz.prog (x args)):Extern.findNext fn=none/\∀e args,Extern.find fn=some e->Mf Tryz.prog (e args):=
 ⟨hn,fun e args h=>(Option.some.inj (hf.symm.trans h))▸hx args⟩
theorem b7P{fn:Func}(hn:Extern.findNext fn=none)(hf:Extern.find fn=none):Extern.findNext fn=none/\∀e args,Extern.find fn=some e->Mf Tryz.prog (e args):=⟨hn,fun e args h=>absurd h (by rw[hf];simp)⟩
theorem c6f:∀f∈[97,119,120,121,162,163,247,248,255,259,261,262],∀fn,Tryz.prog.funcs[f]?=some fn->Extern.findNext fn=none/\∀e args,Extern.find fn=some e->Mf Tryz.prog (e args):=by
 intro f hf fn hfn;simp only[List.mem_cons,List.not_mem_nil,or_false] at hf;rcases hf with rfl|rfl|rfl|rfl|rfl|rfl|rfl|rfl|rfl|rfl|rfl|rfl
 ·obtain rfl:=Option.some.inj (Tryz.func97.symm.trans hfn);exact a8X (x:=ReflectliteType.typeOf) (by kernel_rfl) (by kernel_rfl) fun args=>b71
 ·obtain rfl:=Option.some.inj (Tryz.func119.symm.trans hfn);exact a8X (x:=fun args=>ReflectliteValue.unpack (args.getD 0 (.tuple #[]))) (by kernel_rfl) (by kernel_rfl) fun args=>b0N
 ·obtain rfl:=Option.some.inj (Tryz.func120.symm.trans hfn);exact a8X (x:=ReflectliteValue.methodAny (ReflectliteValue.valueError "reflectlite.Value.Type" 0) fun t _ _ _=>ReflectliteType.toType t) (by kernel_rfl) (by kernel_rfl) fun args=>a9N (a0G _ _) fun t _ _ _=>a6P t
 ·obtain rfl:=Option.some.inj (Tryz.func121.symm.trans hfn);exact a8X (x:=ReflectliteValue.method (ReflectliteValue.valueError "reflectlite.Value.IsNil" 0) ReflectliteValue.isNil) (by kernel_rfl) (by kernel_rfl) fun args=>a5g (a0G _ _) fun t a fl k=>b73 t fl k
 ·obtain rfl:=Option.some.inj (Tryz.func162.symm.trans hfn);exact a8X (x:=ReflectliteValue.method (ReflectliteValue.valueError "reflectlite.Value.Elem" 0) ReflectliteValue.elem) (by kernel_rfl) (by kernel_rfl) fun args=>a5g (a0G _ _) fun t a fl k=>c0J t fl k
 ·obtain rfl:=Option.some.inj (Tryz.func163.symm.trans hfn);exact a8X (x:=ReflectliteValue.set) (by kernel_rfl) (by kernel_rfl) fun args=>c4Y
 ·obtain rfl:=Option.some.inj (Tryz.func247.symm.trans hfn);exact b7P (by kernel_rfl) (by kernel_rfl)
 ·obtain rfl:=Option.some.inj (Tryz.func248.symm.trans hfn);exact a8X (x:=ReflectliteType.abiMethod fun t=>do pure (.int .u8 (<-Rtype.kind t))) (by kernel_rfl) (by kernel_rfl) fun args=>b1S (f:=fun t=>do pure (.int .u8 (<-Rtype.kind t))) (fun t=>l9 (a8m t) fun _=>o5 _) args
 ·obtain rfl:=Option.some.inj (Tryz.func255.symm.trans hfn);exact a8X (x:=ReflectliteValue.method (pure (.int .u8 0)) fun _ _ _ k=>pure (.int .u8 (Int.ofNat k))) (by kernel_rfl) (by kernel_rfl) fun args=>a5g (zero:=pure (.int .u8 0)) (f:=fun _ _ _ k=>pure (.int .u8 (Int.ofNat k))) (o5 _) fun _ _ _ _=>o5 _
 ·obtain rfl:=Option.some.inj (Tryz.func259.symm.trans hfn);exact a8X (x:=ReflectliteType.relation "AssignableTo" ReflectliteType.assignableTo) (by kernel_rfl) (by kernel_rfl) fun args=>a7v (fun t u=>a7W t u) args
 ·obtain rfl:=Option.some.inj (Tryz.func261.symm.trans hfn);exact a8X (x:=ReflectliteType.method ReflectliteType.elem) (by kernel_rfl) (by kernel_rfl) fun args=>b72 (fun t=>c0I t) args
 ·obtain rfl:=Option.some.inj (Tryz.func262.symm.trans hfn);exact a8X (x:=ReflectliteType.relation "Implements" ReflectliteType.implements_) (by kernel_rfl) (by kernel_rfl) fun args=>a7v (fun t u=>a9f t u) args
theorem b7Q:∀(t:Nat)(i:TypeInfo),Tryz.prog.types[t]?=some i->Zn.ZOK zone i:=fun t i hi z hzz=>by
 have h1:=List.all_eq_true.1 types i (by rw[<-Array.getElem?_toList] at hi;exact List.mem_of_getElem? hi);unfold typeAt at h1;simp only[Bool.and_eq_true] at h1;rw[hzz] at h1;exact Zn.vOK.sound _ _ h1.1
theorem pnc:PNC db.disc Tryz.prog:=by
 have at_:∀f fn,db.disc.F f->Tryz.prog.funcs[f]?=some fn->a5K f=true:=fun f fn hf _=>List.all_eq_true.1 c4Q f (by simpa [DB.disc,db] using hf);refine⟨⟨fun t i hi m hm hN f p hf=>?_,fun f fn hf hfn=>?_,fun f fn hf hfn hb=>?_⟩,b4J,fun f fn c hf hfn hb=>?_⟩
 ·rcases Nat.lt_or_ge t Tryz.prog.types.size with ht|ht
  ·have h1:=List.all_eq_true.1 c4R i (by have:=Zn.info_old ht hi;rw[<-Array.getElem?_toList] at this;exact List.mem_of_getElem? this);have h2:=List.all_eq_true.1 h1 m (by simpa using hm);rw[hf,show db.N m.name=true from hN] at h2;exact(by simpa using h2:db.F f=true)
  ·rw[(Zn.info_ok (Z:=zone) b7Q hi).2 ht] at hm;simp at hm
 ·have h1:=at_ f fn hf hfn;unfold a5K at h1;rw[hfn] at h1;simp only[Bool.and_eq_true] at h1;simpa using h1.1
 ·have h1:=at_ f fn hf hfn;unfold a5K at h1;rw[hfn] at h1;simp only[Bool.and_eq_true,hb] at h1;exact c6f f (by simpa using h1.2) fn hfn
 ·have h1:=at_ f fn hf hfn;unfold a5K at h1;rw[hfn] at h1;simp only[Bool.and_eq_true,hb] at h1;exact codeB.sound h1.2
end
section
open Go.RowKit Go.Nm
theorem b1J:(List.range 7).all (fun g=>(((begin Tryz.prog (fun _ _=>0) default).world.heap[g]?).bind Obj.row?).isSome)=true:=by kernel_rfl
theorem a8Y{W:World}(h:W.ShapedOpen Tryz.prog):∀g,g<Tryz.prog.globals.size->IsRow W g:=by
 intro g hg;have hg':g<7:=by rw[globals_size] at hg;exact hg
 have h1:=List.all_eq_true.1 b1J g (List.mem_range.2 hg');obtain⟨⟨zero,t⟩,h2⟩:=Option.isSome_iff_exists.1 h1;obtain⟨cs,h3,-⟩:=h.1 g zero t hg h2;exact⟨cs,t,_,h3⟩
end
section
open Go.ChangeShapes Go.WideShapes Go.ChangeAt Go.RowKit Go.Joins Go.Lib Pl
namespace zpost
theorem card_goes{p:Pinned}{s:OpenSpec}{c:OpenClaim}(kinds:List LaidKind)(har:Bool×String)(lk:Bool)
 (hc:c.holds p s)(hw:c.wfByText s=true)(htie:c.laidByTextAt .later p kinds true)
 (hst:c.start=.entering)(hnb:c.noBlocks=false/\c.again=false)(hm:p.checked.prog.mainIs=some (har.1,har.2.toList))(hn:(!har.1&&har.2.isEmpty&&!lk)=false)
 (hl:∀f fn,p.checked.prog.funcNamed c.func=some f->p.checked.prog.funcs[f]?=some fn->lk=p.checked.prog.looks []/\∀(j:Nat)t,fn.params[j]?=some t->p.checked.prog.wantsStandIn t=false)
 (hg:true=c.goesBy p.checked.prog):
 Claim7.holds p (.plain s) {stood:={row:=c,standIns:=[],harness:=har,looks:=lk},kinds:=[],alts:=[],goes:=true,laidByText:=true,laidKinds:=kinds,laidTests:=true,laidLooks:=.later}:=by
 have h6:Claim7.isSixth {stood:={row:=c,standIns:=[],harness:=har,looks:=lk},kinds:=[]} = false:=by simpa [Claim7.isSixth] using hn
 refine⟨?_,(fun D hD=>by cases hD),htie,(fun h=>by cases h),hg⟩;exact Claim7.tied_new_at .later kinds true (Claim7.new_of_sixth hc har lk hst hnb hm h6 hl) hw
theorem own:ownKnob Tryz.prog.godebug=none:=by kernel_rfl
theorem et:Tryz.prog.globalNamed "errors.errorType" = some 0:=by kernel_rfl
theorem rt:(Tryz.prog.cutTypes.find? (·.1== "internal/reflectlite.rtype")).map (·.2)=some 275:=by kernel_rfl
theorem oneRow:((List.range 395).filter fun t=>Tryz.prog.rowNamed t [101,114,114,111,114])=[34]:=by kernel_rfl
theorem size:Tryz.prog.types.size=395:=by kernel_rfl
theorem handle:typeHandle Tryz.prog 34=.pointer (some ⟨7,34,none⟩):=by kernel_rfl
theorem g10:Tryz.prog.globalNamed "internal/strconv.uint64pow10" = some 1:=by kernel_rfl
theorem ty10:(Tryz.prog.globals[1]?).map (·.type)=some 353:=by kernel_rfl
def c6B:Lit->Value
 | .int k n=>.int k n
 | _=>.nilIface
def lv:DataW Unit->Value
 | .lit l=>c6B l
 | _=>.nilIface
def c6C:DataW Unit->List Value
 | .agg xs=>xs.map lv
 | x=>[lv x]
def c1q:DataW Unit->List Value
 | .agg xs=>xs.flatMap c6C
 | x=>[lv x]
def put(cs:List Value):Obj->Obj
 | .cells _ t frozen=>.cells cs.toArray t frozen
 | o=>o
noncomputable def laidWorld(os:Os)(args:Array Value):World:=
 {World.holding Tryz.prog os ⟨#[],args,[]⟩ with heap:=(((((((World.holding Tryz.prog os ⟨#[],args,[]⟩).heap.modify 0 (put [.iface 275 (.agg #[.pointer (some ⟨7,34,none⟩)])])).modify 5 (put (c1q Rows.laid_math_bits_deBruijn32tab))).modify 6 (put (c1q Rows.laid_math_bits_deBruijn64tab))).modify 1 (put (c1q Rows.laid_internal_strconv_uint64pow10))).modify 4 (put (c1q Rows.laid_unicode_utf8_acceptRanges))).modify 3 (put (c1q Rows.laid_unicode_utf8_first)))}
variable{H:Type}{enc:TypeId×Value->H}{P:Program}
end zpost
end
section
open Go.RowKit Go.Lib Go.Maps Dk
open Zn (VP ObjP Zf WPs Zone Le)
def Core(a m1 m2:Nat)(mv:Value)(gs:List Nat)(dv:Nat->Value)(ids:List Nat)(b:Nat):Prop:=
 b=a\/b=m1\/b=m2\/b∈gs\/mv.ownBlock=some b\/∃x∈ids,b=x\/(dv x).ownBlock=some b
section
variable{w:World}{F:Nat->Prop}{a m1 m2:Nat}{mv:Value}{gs:List Nat}{dv:Nat->Value}{d:D}
theorem DiskRep.core_sub(h:DiskRep w F a m1 m2 mv gs dv d){b:Nat}(hb:Core a m1 m2 mv gs dv d.ids b):F b:=by
 rcases hb with rfl|rfl|rfl|hb|hb|⟨x,hx,rfl|hb⟩
 ·exact h.fa
 ·exact h.fm.1
 ·exact h.fm.2
 ·exact h.fg b hb
 ·exact h.fo b hb
 ·exact(h.fx _ hx).1
 ·exact(h.fx x hx).2 b hb
theorem b9u{Z:Zone}{B:Nat}{e:TypeId}{size:Nat}{v:Value}{n:Nat}{xs:List Value}(h:w.ownsRow B e size v n xs)(hD:∀b,v.ownBlock=some b->Z.D b):VP Z v:=by
 rcases h.2 with⟨rfl,_⟩|⟨g,cap,cur,rfl,_⟩
 ·exact .snil _ _
 ·exact .slice _ _ _ (hD g rfl)
theorem c4d{Z:Zone}{o:Option Nat}(h:∀x,o=some x->Z.D x):VP Z (a5a o):=by
 cases o with
 | none=>exact .pnil
 | some x=>exact .ptr _ (h x rfl)
theorem b2F{Z:Zone}{r:Nat}{l:List (Nm×Nat)}(h:a3J w r l)(hl:∀p∈l,Z.D p.2){o:Obj}(ho:w.heap[r]?=some o):ObjP Z o:=by
 obtain⟨es,clock,h1,h2,-⟩:=h;rw[h1] at ho;injection ho with ho;subst ho;refine .map _ _ fun e he=>?_;have hm:(e.key,e.val)∈l.map fun p=>(strV p.1,y8 p.2):=by rw[<-h2];exact List.mem_map_of_mem (by simpa using he)
 obtain⟨p,hp,e1⟩:=List.mem_map.1 hm;injection e1 with e1 e2;rw[<-e1,<-e2];exact⟨.string _,.ptr _ (hl p hp)⟩
theorem DiskRep.core_obj(h:DiskRep w F a m1 m2 mv gs dv d){Z:Zone}(hZ:∀b,Core a m1 m2 mv gs dv d.ids b->Z.D b){b:Nat}(hb:Core a m1 m2 mv gs dv d.ids b){o:Obj}(ho:w.heap[b]?=some o):ObjP Z o:=by
 have hx:∀x∈d.ids,Z.D x:=fun x hx=>hZ x (.inr (.inr (.inr (.inr (.inr ⟨x,hx,.inl rfl⟩)))));have hg:∀g∈gs,Z.D g:=fun g hg=>hZ g (.inr (.inr (.inr (.inl hg))));rcases hb with rfl|rfl|rfl|hb|hb|⟨x,hxi,rfl|hb⟩
 ·have hbx:=h.box;unfold o7 at hbx;rw[hbx] at ho;injection ho with ho;subst ho;refine .cells _ _ _ fun v hv=>?_;simp at hv;rcases hv with rfl|rfl|rfl|rfl|rfl|rfl
  ·exact .map _ (hZ _ (.inr (.inl rfl)))
  ·exact .map _ (hZ _ (.inr (.inr (.inl rfl))))
  ·exact b9u h.outer fun b hb=>hZ b (.inr (.inr (.inr (.inr (.inl hb)))))
  ·exact .int _ _
  ·exact .int _ _
  ·exact .int _ _
 ·exact b2F h.now (fun p hp=>hx _ (h.wf.now p hp)) ho
 ·exact b2F h.safe (fun p hp=>hx _ (h.wf.safe p hp)) ho
 ·obtain⟨i,hi⟩:=List.mem_iff_getElem?.1 hb;have hil:i<d.moves.length:=by
   have:=(List.getElem?_eq_some_iff.1 hi).1;rw[<-h.rows.1];exact this
  have hl:d.moves[i]?=some d.moves[i]:=List.getElem?_eq_getElem hil;have hr:=h.rows.2 i b _ hi hl;unfold a0C o7 at hr;rw[hr] at ho;injection ho with ho;subst ho;refine .cells _ _ _ fun v hv=>?_;have hv':v∈(d.moves[i]).flatMap moveCells:=by simpa using hv
  obtain⟨m,hm,hv'⟩:=List.mem_flatMap.1 hv';have hv2:v=strV m.1\/v=a5a m.2:=by simpa [moveCells] using hv'
  rcases hv2 with rfl|rfl
  ·exact .string _
  ·exact c4d fun f hf=>hx f (h.wf.moves _ (List.mem_of_getElem? hl) m hm f hf)
 ·rcases h.outer.2 with⟨e,_⟩|⟨g,cap,cur,e,_,hc,_⟩
  ·rw[e] at hb;cases hb
  ·obtain rfl:g=b:=by rw[e] at hb;simpa [Value.ownBlock] using hb
   rw[hc] at ho;injection ho with ho;subst ho;refine .cells _ _ _ fun v hv=>?_;rcases h.outf g cur _ _ (by rw[e];rfl) hc v hv with rfl|⟨q,n,hq,rfl⟩
   ·exact .snil _ _
   ·exact .slice _ _ _ (hg q hq)
 ·have hbx:=(h.file _ hxi).1;unfold o7 at hbx;rw[hbx] at ho;injection ho with ho;subst ho;refine .cells _ _ _ fun v hv=>?_;simp at hv;rcases hv with rfl|rfl
  ·exact b9u (h.file _ hxi).2 fun q hq=>hZ q (.inr (.inr (.inr (.inr (.inr ⟨_,hxi,.inr hq⟩)))))
  ·exact .int _ _
 ·rcases(h.file x hxi).2.2 with⟨e,_⟩|⟨g,cap,cur,e,_,hc,_⟩
  ·rw[e] at hb;cases hb
  ·obtain rfl:g=b:=by rw[e] at hb;simpa [Value.ownBlock] using hb
   rw[hc] at ho;injection ho with ho;subst ho;refine .cells _ _ _ fun v hv=>?_;obtain⟨k,rfl⟩:=h.flat x hxi g cur _ _ (by rw[e];rfl) hc v hv;exact .int _ _
def Shun(a m1 m2:Nat)(mv:Value)(gs:List Nat)(dv:Nat->Value)(ids:List Nat)(n b:Nat):Prop:=b<n/\7<b/\¬Core a m1 m2 mv gs dv ids b
theorem DiskRep.wps(h:DiskRep w F a m1 m2 mv gs dv d)(hbase:∀b o,b<=7->w.heap[b]?=some o->ObjP zone o)(h7:7<w.heap.size):WPs zone (Shun a m1 m2 mv gs dv d.ids w.heap.size) w:=by
 have hle:Le zone (Zf zone (Shun a m1 m2 mv gs dv d.ids w.heap.size) w.heap.size):=⟨rfl,rfl,rfl,fun b(hb:b<=7)=>⟨by omega,fun hs=>by have:=hs.2.1;omega⟩⟩;refine⟨fun b o hb hn ho=>?_,fun b hb=>hb.1,fun b(hb:b<=7)=>⟨by omega,fun hs=>by have:=hs.2.1;omega⟩⟩;rcases Nat.lt_or_ge 7 b with hb7|hb7
 ·have hc:Core a m1 m2 mv gs dv d.ids b:=Classical.byContradiction fun hc=>hn ⟨hb,hb7,hc⟩;exact h.core_obj (Z:=Zf zone (Shun a m1 m2 mv gs dv d.ids w.heap.size) w.heap.size) (fun q hq=>show _/\_ from⟨h.low q (h.core_sub hq),fun hs=>hs.2.2 hq⟩) hc ho
 ·exact(hbase b o hb7 ho).mono hle
theorem DiskRep.vp(h:DiskRep w F a m1 m2 mv gs dv d):VP (Zf zone (Shun a m1 m2 mv gs dv d.ids w.heap.size) w.heap.size) (y8 a):=
 .ptr _ ⟨h.low a h.fa,fun hs=>hs.2.2 (.inl rfl)⟩
end
end
end Go.Proofs.YtgpbhjjajpbeeaaGreatDoor
set_option maxRecDepth 100000
namespace Go.Proofs.YtgpbhjjajpbeeaaGreatDoor
open Go.RowKit Go.Nm Go.Lib
open Zn (VP ObjP Zone)
noncomputable def intRow(t:TypeId):Bool:=Tryz.prog.buildable t&&(match Tryz.prog.cellTypes Tryz.prog.depth t with
 | some ts=>ts.all fun u=>match Tryz.prog.underlying u with|some (.int _)=>true|_=>false
 | none=>false)
theorem intRow.cells{W:World}{r:Reach}{t:TypeId}{cs:Array Value}(ht:intRow t=true)(h:Tryz.prog.buildable t=true->Row.ok Tryz.prog W r 0 t cs):∀v∈cs,∃k n,v=.int k n:=by
 unfold intRow at ht;simp only[Bool.and_eq_true] at ht;obtain⟨ts,h1,-,h2⟩:=h ht.1;rw[h1] at ht;intro v hv;obtain⟨i,hi⟩:=Array.mem_iff_getElem?.1 hv;obtain⟨u,hu,hc⟩:=h2 i v hi;have hk:=List.all_eq_true.1 ht.2 u (List.mem_of_getElem? hu);unfold Cell.ok at hc
 cases e:Tryz.prog.underlying u with
 | none=>rw[e] at hk;cases hk
 | some x=>
  rw[e] at hk hc;cases x<;>first|(cases hk;done)|skip
  cases v<;>first|exact hc.elim|exact⟨_,_,rfl⟩
noncomputable def rowAt(g:Nat):Option (Array Value×TypeId):=((begin Tryz.prog (fun _ _=>0) default).world.heap[g]?).bind Obj.row?
noncomputable def b2M(g:Nat):Bool:=match rowAt g with|some (_,t)=>intRow t|none=>false
theorem b1A:((List.range 7).filter fun g=>!b2M g)=[0]:=by kernel_rfl
theorem a9L:(rowAt 0).map (fun x=>x.1.size)=some 1:=by kernel_rfl
noncomputable def a6w:Bool:=match (begin Tryz.prog (fun _ _=>0) default).world.heap[7]? with
 | some (Obj.cells c _ _)=>c.toList.all (Zn.vOK zb 6)
 | _=>false
theorem a8F:a6w=true:=by kernel_rfl
theorem b6S{W:World}(h:W.ShapedOpen Tryz.prog)(hL:Laid W):∀b o,b<=7->W.heap[b]?=some o->ObjP zone o:=by
 intro b o hb ho;rcases Nat.lt_or_ge b 7 with hb7|hb7
 ·have hgl:b<Tryz.prog.globals.size:=by rw[globals_size];exact hb7
  by_cases he:b=0
  ·subst he;have h1:=a9L;obtain⟨⟨zero,t⟩,h2,h3⟩:=Option.map_eq_some_iff.1 h1;obtain⟨cs,h4,h5,-⟩:=h.1 _ zero t hgl h2;rw[h4] at ho;injection ho with ho;subst ho;have h6:cs.size=1:=h5.trans h3;have h7:cs[0]?=some (.iface 275 (.agg #[.pointer (some ⟨7,34,none⟩)])):=by
    have:=hL;unfold Laid at this;simpa [World.cell?,h4] using this
   refine .cells _ _ _ fun v hv=>?_;obtain⟨i,hi⟩:=Array.mem_iff_getElem?.1 hv;have hi0:i=0:=by
    have:=(Array.getElem?_eq_some_iff.1 hi).1;omega
   subst hi0;rw[h7] at hi;injection hi with hi;subst hi;refine .iface _ _ rfl (.agg _ fun x hx=>?_);obtain rfl:x=.pointer (some ⟨7,34,none⟩):=by simpa using hx
   exact .ptr _ (Nat.le_refl _)
  ·have hm:b∉((List.range 7).filter fun g=>!b2M g):=by
    rw[b1A];simpa using he
   have hi:b2M b=true:=by
    cases e:b2M b with
    | true=>rfl
    | false=>exact absurd (List.mem_filter.2 ⟨List.mem_range.2 hb7,by rw[e];rfl⟩) hm
   unfold b2M at hi
   cases hr:rowAt b with
   | none=>rw[hr] at hi;cases hi
   | some r=>
    obtain⟨zero,t⟩:=r;rw[hr] at hi;obtain⟨cs,h4,-,h5⟩:=h.1 b zero t hgl hr;rw[h4] at ho;injection ho with ho;subst ho;refine .cells _ _ _ fun v hv=>?_;obtain⟨k,n,rfl⟩:=intRow.cells hi h5 v hv;exact .int _ _
 ·obtain rfl:b=7:=by omega
  have hk:=a8F;unfold a6w at hk
  cases e:(begin Tryz.prog (fun _ _=>0) default).world.heap[7]? with
  | none=>rw[e] at hk;cases hk
  | some o0=>
   rw[e] at hk;have hlt:7<(begin Tryz.prog (fun _ _=>0) default).world.heap.size:=by
    rcases Nat.lt_or_ge 7 (begin Tryz.prog (fun _ _=>0) default).world.heap.size with h|h
    ·exact h
    ·rw[Array.getElem?_eq_none h] at e;cases e
   obtain⟨o1,o2,h1,h2,h3⟩:=h.2 7 (by rw[globals_size];exact Nat.le_refl _) hlt;rw[e] at h2;injection h2 with h2;subst h2;rw[globals_size,if_neg (by decide)] at h3;rw[ho] at h1;injection h1 with h1;subst h1;rw[h3]
   cases o0 with
   | cells c t fr=>
    exact .cells _ _ _ fun v hv=>Zn.vOK.sound _ _ (List.all_eq_true.1 hk v (by simpa using hv))
   | _=>cases hk
end Go.Proofs.YtgpbhjjajpbeeaaGreatDoor
namespace Go.Proofs.YtgpbhjjajpbeeaaGreatDoor
section
open Go.RowKit Go.Lib Go.Maps Dk Pl
open Go.Conc Go.Mw
open Zn (tp Full WPs VP Zf Le)
open To (wpT wpT_lone I4 Iv a6a To a6b bodyT a9o b0X a1B a1A)
set_option linter.unusedSectionVars false
section
variable[Go.ConcR.Payload][To.Lo]{Sh:Nat->Prop}{w:World}{T:Array Value}{Q:Exit->Act->World->(Nat->Prop)->Prop}{F:Nat->Prop}{a:Nat}{D:Dk.D}
end
end
section
open Go.RowKit Go.Lib Go.Maps Dk Pl
open Go.Conc Go.Mw
open Zn (tp Full WPs VP Zf Le)
open To (wpT wpT_lone I4 Iv a6a To a6b bodyT)
set_option linter.unusedSectionVars false
theorem Held.to_tp{w:World}{τ:Nat->Question->Nat}{p:Nat}{F:Nat->Prop}{Φ:World->Prop}(h:Held w F Φ):Held (tp w τ p) F Φ:=let ⟨S,h1,h2⟩:=h;⟨S,h1,h2⟩
section
variable[Go.ConcR.Payload][To.Lo]{Sh:Nat->Prop}{w:World}{T:Array Value}{F:Nat->Prop}{a:Nat}{D:Dk.D}{percent count:Int}
end
end
section
open Go.RowKit Go.Lib Go.Maps Dk Pl
open Go.Conc Go.Mw
open Zn (tp Full WPs VP Zf Le)
open To
def Code.fst:Code->Code|.seq a _=>a|c=>c
def Code.snd:Code->Code|.seq _ b=>b|c=>c
def Code.inn:Code->Code|.block _ c=>c|.loop c=>c|c=>c
def Code.ops:Code->Array Oper|.region _ ops _=>ops|_=>#[]
noncomputable def flL:Code:=Code.inn (Code.inn (Code.snd (U0 11)))
noncomputable def flB:Code:=Code.inn (Code.fst (Code.snd flL))
noncomputable def flM:Code:=Code.inn (Code.inn (Code.snd flB))
noncomputable def c5N:Code:=Code.fst (U0 11)
noncomputable def c2s:Code:=Code.fst (Code.fst flL)
noncomputable def c5O:Code:=Code.snd (Code.snd flL)
noncomputable def c4r:Code:=Code.fst flB
noncomputable def b60:Code:=Code.fst (Code.fst flM)
noncomputable def c5P:Code:=Code.snd (Code.snd flM)
noncomputable def b61:Code:=Code.fst (Code.inn (Code.fst (Code.snd flM)))
noncomputable def c4s:Code:=Code.snd (Code.inn (Code.fst (Code.snd flM)))
theorem c5Q:U0 11=.seq (.region 14 (Code.ops c5N) false) (.block 0 (.loop flL)):=by kernel_rfl
theorem c4t:flL=.seq (.seq (.region 15 (Code.ops c2s) false) (.cond (.tmp 75) .skip (.exit 0))) (.seq (.block 1 (.seq (.region 17 (Code.ops c4r) false) (.block 2 (.loop flM)))) (.region 16 (Code.ops c5O) false)):=by kernel_rfl
theorem c4u:flM=.seq (.seq b60 (.cond (.tmp 84) .skip (.exit 2))) (.seq (.block 3 (.seq b61 (.region 21 (Code.ops c4s) false))) (.region 19 (Code.ops c5P) false)):=by kernel_rfl
def gX(k:Tmp):Bool:=!(k==0||k==1||k==2||k==25||k==27||k==28||k==29||k==30||k==31||k==32||k==33||k==34||(decide (68<=k)&&decide (k<=75))||(decide (96<=k)&&decide (k<=102)))
theorem b9D:([b60,b61].all fun c=>Zn.cOK zb c&&Zn.useB gX c)=true:=by kernel_rfl
def c6t(k:Nat):Bool:=decide (78<=k)&&decide (k<=84)
def c5R(T:Array Value)(b:Bool)(w:World):Exit->Act->World->Prop
 | .normal,a',w'=>a'.defers=[]/\Kp c6t T a'.tmps/\a'.tmps[84]?=some (.bool b)/\w'=w
 | _,_,_=>False
section
variable{w:World}{T:Array Value}{rb gen k:Nat}{ids:List Int}{bss:List (List UInt8)}
theorem c2t(hT:T.size=154)(h12:T[12]?=some (y8 rb))(h17:T[17]?=some (.int .i64 k))(h:a0I w rb gen ids bss):b60.wp Tryz.prog (c5R T (decide (k<ids.length)) w) ⟨T,[]⟩ w:=by
 obtain⟨_,h12'⟩:=slot h12;obtain⟨_,h17'⟩:=slot h17;obtain⟨sa,sc,hb,-⟩:=id h;obtain⟨n,hn⟩:∃n,ids.length=n:=⟨_,rfl⟩;rw[hn] at hb⊢;have b1:=(hb.cell 1).trans (show _=some (Value.slice sa n sc) from rfl);clear h12 h17 h hb hn;unfold y8 at h12';unfold b60 flM flB flL U0 U6;simp only[Code.behind,Code.head,Code.fst,Code.snd,Code.inn,Tryz.f3,Option.getD_some];go_wp2_with fail
 refine⟨rfl,?_,?_,rfl⟩
 ·dsimp only;exact Kp.set (Kp.set (Kp.set (Kp.set (Kp.set (Kp.set (Kp.set (Kp.refl _ _) rfl) rfl) rfl) rfl) rfl) rfl) rfl
 ·dsimp only;refine(a1e (by simp only[Array.size_setIfInBounds,hT];decide)).trans ?_;simp
def c6u(k:Nat):Bool:=k==18||(decide (87<=k)&&decide (k<=95))
def c5S(T:Array Value)(v:Value)(w:World):Exit->Act->World->Prop
 | .normal,a',w'=>a'.defers=[]/\Kp c6u T a'.tmps/\a'.tmps[18]?=some v/\Ext w w'
 | _,_,_=>False
theorem c2u(hT:T.size=154)(h12:T[12]?=some (y8 rb))(h17:T[17]?=some (.int .i64 k))(h:a0I w rb gen ids bss)(hids:a4j ids)(hk:k<ids.length):b61.wp Tryz.prog (c5S T (strV (D7 G8 (ids.getD k 0).toNat)) w) ⟨T,[]⟩ w:=by
 obtain⟨_,h12'⟩:=slot h12;obtain⟨_,h17'⟩:=slot h17;obtain⟨sa,sc,hb,-,-,-,hseg⟩:=id h;obtain⟨g,rfl,s0,-⟩:=hseg k hk;have hr:=hids.2 (ids.getD k 0) (by rw[List.getD_eq_getElem?_getD,List.getElem?_eq_getElem hk];exact List.getElem_mem hk);obtain⟨id,hid⟩:∃id:Nat,ids.getD k 0=(id:Int):=⟨(ids.getD k 0).toNat,by omega⟩;rw[hid] at s0 hr⊢;rw[Int.toNat_natCast];obtain⟨n,hn⟩:∃n,ids.length=n:=⟨_,rfl⟩;have hil:=hids.1;rw[hn] at hb hk hil;have b1:=(hb.cell 1).trans (show _=some (Value.slice (some ⟨g,0,none⟩) n sc) from rfl);have hkn:(k:Int)<(n:Int):=by omega
 have hnm:=a2y G8 id w (by decide) (by omega);obtain⟨nm,hnmv⟩:∃nm,strV (D7 G8 id)=nm:=⟨_,rfl⟩;rw[hnmv] at hnm⊢;have HN:=Lib.hid hnm;clear h12 h17 h hb hn hseg hids hnm hid hnmv hr;unfold strV G8 at HN;unfold y8 at h12';unfold b61 flM flB flL U0 U6;simp only[Code.behind,Code.head,Code.fst,Code.snd,Code.inn,Tryz.f3,Option.getD_some];go_wp2_with fail
 refine HN.out.mono ?_;rintro e w1 ⟨rfl,hE⟩;have HE:=Lib.hid hE;clear hE HN;go_wp2;refine⟨rfl,?_,?_,HE.out⟩
 ·dsimp only;exact Kp.set (Kp.set (Kp.set (Kp.set (Kp.set (Kp.set (Kp.set (Kp.set (Kp.set (Kp.set (Kp.refl _ _) rfl) rfl) rfl) rfl) rfl) rfl) rfl) rfl) rfl) rfl
 ·dsimp only;exact a1e (by simp only[Array.size_setIfInBounds,hT];decide)
end
section
variable{ρ:Operand->Value}{x y:Operand}
theorem b2P{a b:Int}(hx:ρ x=.int .i64 a)(hy:ρ y=.int .i64 b):Runs Tryz.prog ρ (.binOp .lss 3 x y 3) (.bool (decide (a<b))):=fun o ho w=>by
 constructor<;>simp[go_sem,execOp,ho,hx,hy]
theorem b9E{i:Nat}(hi:i<=1000000)(hx:ρ x=.int .i64 i)(hy:ρ y=.int .i64 1):Runs Tryz.prog ρ (.binOp .add 3 x y 3) (.int .i64 (i+1:Nat)):=fun o ho w=>by
 have hw:IntKind.i64.wrap ((i:Int)+1)=(i:Int)+1:=by rw[IntKind.wrap_i64];omega
 constructor<;>simp[go_sem,execOp,ho,hx,hy,hw]
theorem b62{a:Option Addr}{m c:Nat}(h:ρ x=.slice a m c):Runs Tryz.prog ρ (.call {callee:=.builtin .len,args:=#[x],argTypes:=#[28]}) (.int .i64 m):=fun o ho w=>by
 constructor<;>simp[go_sem,execOp,ho,h]
theorem c2w{a:Addr}{n c:Nat}(hn:0<n)(hx:ρ x=.slice (some a) n c)(hy:ρ y=.int .i64 0):Runs Tryz.prog ρ (.indexAddr 28 x y) (.pointer (some (a.add 0))):=fun o ho w=>by
 constructor<;>simp[go_sem,execOp,ho,hx,hy,hn]
theorem c2x{ad:Addr}{v:Value}(hx:ρ x=.pointer (some ad))(o:Oper)(ho:o.op=.load 56 x)(w:World)(hc:w.cell? ad=some v):(execOp ρ o).run Tryz.prog w=.ok (.value v) w/\(execOp ρ o).events Tryz.prog w #[]=#[⟨.cell ad,false,false⟩]:=by
 constructor<;>simp[go_sem,execOp,ho,hx,hc]
end
section
variable[To.Lo]{Sh:Nat->Prop}{w:World}{T:Array Value}{Q:Exit->Act->World->(Nat->Prop)->Prop}{F:Nat->Prop}{a:Nat}{E:Dk.D}
theorem c4v{ba:Option Addr}{i n bc:Nat}(hT:T.size=154)(h1:T[1]?=some (.slice ba n bc))(h16:T[16]?=some (.int .i64 i))
 (h:∀T',T'.size=154->T'[75]?=some (.bool (decide (i<n)&&decide (i<1)))->(∀k,k<68\/75<k->T'[k]?=T[k]?)->Q .normal ⟨T',[]⟩ w Sh):wpT Tryz.prog 3 (.region 15 (Code.ops c2s) false) Q ⟨T,[]⟩ w Sh:=by
 refine a0Q ?_;rw[show List.range (Code.ops c2s).size=[0,1,2,3,4,5,6,7] by kernel_rfl];refine O7 (d:=68) (op:=.move (.tmp 16)) (g:=none) (.of (by kernel_rfl)) wn0 hT (by decide) (a0a (G9 h16)) fun T1 s1 g1 k1=>?_;refine O7 (d:=69) (op:=.move (.tmp 1)) (g:=none) (.of (by kernel_rfl)) wn0 s1 (by decide) (a0a (G9 ((k1 1 (by decide)).trans h1))) fun T2 s2 g2 k2=>?_;refine O7 (d:=70) (op:=.call {callee:=.builtin .len,args:=#[.tmp 69],argTypes:=#[28]}) (g:=none) (.of (by kernel_rfl)) wn0 s2 (by decide) (b62 (G9 g2)) fun T3 s3 g3 k3=>?_;refine O7 (d:=71) (op:=.binOp .lss 3 (.tmp 68) (.tmp 70) 3) (g:=none) (.of (by kernel_rfl)) wn0 s3 (by decide) (b2P (G9 ((k3 68 (by decide)).trans ((k2 68 (by decide)).trans g1))) (G9 g3)) fun T4 s4 g4 k4=>?_;refine O7 (d:=72) (op:=.move (.tmp 71)) (g:=none) (.of (by kernel_rfl)) wn0 s4 (by decide) (a0a (G9 g4)) fun T5 s5 g5 k5=>?_;have h165:T5[16]?=some (.int .i64 i):=(k5 16 (by decide)).trans ((k4 16 (by decide)).trans ((k3 16 (by decide)).trans ((k2 16 (by decide)).trans ((k1 16 (by decide)).trans h16))));have hop:a5n (Code.ops c2s) 4 72 (.move (.tmp 71)) none:=.of (by kernel_rfl);have ko:∀k,k<68\/75<k->T5[k]?=T[k]?:=fun k hk=>(k5 k (by omega)).trans ((k4 k (by omega)).trans ((k3 k (by omega)).trans ((k2 k (by omega)).trans (k1 k (by omega)))));by_cases hn:i<n
 ·have hd:decide ((i:Int)<(n:Int))=true:=decide_eq_true (by omega);rw[hd] at g5;refine O7 (d:=73) (op:=.move (.tmp 16)) (g:=some (4,true)) (.of (by kernel_rfl)) (wng hop g5) s5 (by decide) (a0a (G9 h165)) fun T6 s6 g6 k6=>?_;refine O7 (d:=74) (op:=.binOp .lss 3 (.tmp 73) (.const (.int .i64 1)) 3) (g:=some (4,true)) (.of (by kernel_rfl)) (wng hop ((k6 72 (by decide)).trans g5)) s6 (by decide) (b2P (G9 g6) rfl) fun T7 s7 g7 k7=>?_;refine O7 (d:=75) (op:=.pick (.tmp 72) (.tmp 74) (.const (.bool false))) (g:=none) (.of (by kernel_rfl)) wn0 s7 (by decide) (b5e (G9 ((k7 72 (by decide)).trans ((k6 72 (by decide)).trans g5))) _ (G9 g7)) fun T8 s8 g8 k8=>?_;refine a1B (h T8 s8 ?_ fun k hk=>(k8 k (by omega)).trans ((k7 k (by omega)).trans ((k6 k (by omega)).trans (ko k hk))));rw[g8,decide_eq_true hn,Bool.true_and];congr 2
  exact decide_eq_decide.2 ⟨fun h=>by omega,fun h=>by omega⟩
 ·have hd:decide ((i:Int)<(n:Int))=false:=decide_eq_false (by omega);rw[hd] at g5;refine b3A (d:=73) (op:=.move (.tmp 16)) (g:=some (4,true)) (.of (by kernel_rfl)) (wng hop g5) s5 (by decide) fun T6 s6 g6 k6=>?_;refine b3A (d:=74) (op:=.binOp .lss 3 (.tmp 73) (.const (.int .i64 1)) 3) (g:=some (4,true)) (.of (by kernel_rfl)) (wng hop ((k6 72 (by decide)).trans g5)) s6 (by decide) fun T7 s7 g7 k7=>?_;refine O7 (d:=75) (op:=.pick (.tmp 72) (.tmp 74) (.const (.bool false))) (g:=none) (.of (by kernel_rfl)) wn0 s7 (by decide) (b5f (v:=.bool false) (G9 ((k7 72 (by decide)).trans ((k6 72 (by decide)).trans g5))) _ rfl) fun T8 s8 g8 k8=>?_;refine a1B (h T8 s8 ?_ fun k hk=>(k8 k (by omega)).trans ((k7 k (by omega)).trans ((k6 k (by omega)).trans (ko k hk))));rw[g8,decide_eq_false hn];rfl
omit[To.Lo] in
theorem b63:Zn.cOK zb (Tryz.f21.body.getD .skip)=true:=by kernel_rfl
def c3J(F Sh:Nat->Prop)(a:Nat)(E:Dk.D)(w:World)(_:Value)(w':World)(Sh':Nat->Prop):Prop:=Sh'=Sh/\WPs zone Sh w'/\(∃E',y9 w' F a E'/\Like E E')/\Chh F w w'
theorem b65{name:Nm}{u:Int}(W:WPs zone Sh w)(hv:VP (Zf zone Sh w.heap.size) (y8 a))(hD:y9 w F a E)(hn:name.length<=maxLen)(hu:0<=u/\u<=18446744073709551615)(hds:∀x∈E.ids,(E.node x).data.length<=1099511627776):
 a6b Tryz.prog 21 #[y8 a,strV name,.int .u64 u] w Sh (c3J F Sh a E w):=by
 refine a94 (Z:=zone) (c:=Tryz.f21.body.getD .skip) (Q0:=fun w v w'=>∃E',y9 w' F a E'/\Like E E'/\Chg F F w w') pqk Tryz.func21 (by kernel_rfl) (by kernel_rfl) (Zn.cOK.sound b63) W (fun v hv'=>?_) (fun τ p=>?_) (fun Z' tmps _=>⟨_,resultsC_none rfl _,.tuple _ (by simp)⟩) ?_
 ·have:v=y8 a\/v=strV name\/v=.int .u64 u:=by simpa using hv'
  rcases this with rfl|rfl|rfl
  ·exact hv
  ·exact .string _
  ·exact .int _ _
 ·intro c hc;refine Code.wp_mono (fun e a' w' q=>?_) (b6W F a E name u (tp w τ p) hD.to_tp hn hu hds c hc);cases e<;>first|exact q|skip
  ·obtain⟨q1,v,q2,q3,q4⟩:=q;injection q3 with q3;exact⟨q1,v,q2,v,rfl,q4⟩
  ·obtain⟨q1,v,q2,q3,q4⟩:=q;injection q3 with q3;exact⟨q1,v,q2,v,rfl,q4⟩
  ·exact absurd q.2.1 (by simp)
  ·exact absurd q.1 (by simp)
 ·rintro v w' τ p τ' p' ⟨E',q1,q2,q3⟩ hW' _ _;exact⟨rfl,hW',⟨E',q1.of_tp,q2⟩,.of q3⟩
theorem c4w{name:Nm}{ad:Addr}{u:Int}{n bc:Nat}(hT:T.size=154)(h6:T[6]?=some (y8 a))(h18:T[18]?=some (strV name))(h1:T[1]?=some (.slice (some ad) n bc))(h16:T[16]?=some (.int .i64 0))(hn:0<n)(hc:w.cell? (ad.add 0)=some (.int .u64 u))(hlo:ad.block<Lo.n)
 (W:WPs zone Sh w)(hv:VP (Zf zone Sh w.heap.size) (y8 a))(hD:y9 w F a E)(hnm:name.length<=maxLen)(hu:0<=u/\u<=18446744073709551615)(hds:∀x∈E.ids,(E.node x).data.length<=1099511627776)
 (h:∀T' w' E',T'.size=154->(∀k,k<96\/102<k->T'[k]?=T[k]?)->y9 w' F a E'->Like E E'->Chh F w w'->WPs zone Sh w'->Q .normal ⟨T',[]⟩ w' Sh):wpT Tryz.prog 3 (.region 21 (Code.ops c4s) false) Q ⟨T,[]⟩ w Sh:=by
 refine a0Q ?_;rw[show List.range (Code.ops c4s).size=[0,1,2,3,4,5,6] by kernel_rfl];refine O7 (d:=96) (op:=.move (.tmp 6)) (g:=none) (.of (by kernel_rfl)) wn0 hT (by decide) (a0a (G9 h6)) fun T1 s1 g1 k1=>?_;refine O7 (d:=97) (op:=.move (.tmp 18)) (g:=none) (.of (by kernel_rfl)) wn0 s1 (by decide) (a0a (G9 ((k1 18 (by decide)).trans h18))) fun T2 s2 g2 k2=>?_;refine O7 (d:=98) (op:=.move (.tmp 1)) (g:=none) (.of (by kernel_rfl)) wn0 s2 (by decide) (a0a (G9 ((k2 1 (by decide)).trans ((k1 1 (by decide)).trans h1)))) fun T3 s3 g3 k3=>?_;refine O7 (d:=99) (op:=.move (.tmp 16)) (g:=none) (.of (by kernel_rfl)) wn0 s3 (by decide) (a0a (G9 ((k3 16 (by decide)).trans ((k2 16 (by decide)).trans ((k1 16 (by decide)).trans h16))))) fun T4 s4 g4 k4=>?_;refine O7 (d:=100) (op:=.indexAddr 28 (.tmp 98) (.tmp 99)) (g:=none) (.of (by kernel_rfl)) wn0 s4 (by decide) (c2w hn (G9 ((k4 98 (by decide)).trans g3)) (G9 g4)) fun T5 s5 g5 k5=>?_;have eb:(ad.add 0).block=ad.block:=by unfold Addr.add;split<;>rfl
 refine b8n (d:=101) (t:=56) (x:=.tmp 100) (.of (by kernel_rfl)) s5 (by decide) (G9 g5) (by rw[eb];exact hlo) hc (fun o ho w hw=>c2x (G9 g5) o ho w hw) fun T6 s6 g6 k6=>?_;refine a7A (d:=102) (f:=21) (args:=#[.tmp 96,.tmp 97,.tmp 101]) (ats:=#[30,9,56]) (Post:=c3J F Sh a E w) (.of (by kernel_rfl)) s6 (by decide) ?_ fun v w' Sh' T7 hp s7 g7 k7=>?_
 ·have e:(#[Operand.tmp 96,.tmp 97,.tmp 101]).map (Act.eval ⟨T6,[]⟩)=#[y8 a,strV name,.int .u64 u]:=by
   have e1:Act.eval ⟨T6,[]⟩ (.tmp 96)=y8 a:=G9 ((k6 96 (by decide)).trans ((k5 96 (by decide)).trans ((k4 96 (by decide)).trans ((k3 96 (by decide)).trans ((k2 96 (by decide)).trans g1)))));have e2:Act.eval ⟨T6,[]⟩ (.tmp 97)=strV name:=G9 ((k6 97 (by decide)).trans ((k5 97 (by decide)).trans ((k4 97 (by decide)).trans ((k3 97 (by decide)).trans g2))));have e3:Act.eval ⟨T6,[]⟩ (.tmp 101)=.int .u64 u:=G9 g6;simp only[List.map_toArray,List.map_cons,List.map_nil,e1,e2,e3]
  rw[e];exact b65 W hv hD hnm hu hds
 ·obtain⟨rfl,hW',⟨E',hD',hL'⟩,hC'⟩:=hp;refine a1B (h T7 w' E' s7 (fun k hk=>?_) hD' hL' hC' hW');exact(k7 k (by omega)).trans ((k6 k (by omega)).trans ((k5 k (by omega)).trans ((k4 k (by omega)).trans ((k3 k (by omega)).trans ((k2 k (by omega)).trans (k1 k (by omega)))))))
theorem b9F{i:Nat}{v:Value}(hT:T.size=154)(hi:i<154)(hI:Iv zone Sh (fun k=>gX k=true) ⟨T,[]⟩ w){ops:Array Oper}{rest:List Nat}{j:Nat}{x:Operand}(ho:a5n ops j i (.assign x) none)(hx:Act.eval ⟨T,[]⟩ x=v)(hv:∃m,v=.int .i64 m)
 (h:∀T',T'.size=154->T'[i]?=some v->(∀k,k≠i->T'[k]?=T[k]?)->Iv zone Sh (fun k=>gX k=true) ⟨T',[]⟩ w->a1A Tryz.prog 3 ops rest Q ⟨T',[]⟩ w Sh):a1A Tryz.prog 3 ops (j::rest) Q ⟨T,[]⟩ w Sh:=by
 obtain⟨m,rfl⟩:=hv;refine O7 ho wn0 hT hi (a2A hx) fun T' s g k=>h T' s g k (hI.keep fun q _=>?_);by_cases e:q=i
 ·subst e;exact .inr ⟨_,g,.int _ _⟩
 ·exact .inl (k q e)
theorem b9G{i b c m:Nat}(hT:T.size=154)(hb:b<154/\c<154/\i<154/\b≠i/\c≠i/\b≠c)(hm:m<=1000000)(hI:Iv zone Sh (fun k=>gX k=true) ⟨T,[]⟩ w){ops:Array Oper}(hi:T[i]?=some (.int .i64 m))
 (h0:a5n ops 0 b (.move (.tmp i)) none)(h1:a5n ops 1 c (.binOp .add 3 (.tmp b) (.const (.int .i64 1)) 3) none)(h2:a5n ops 2 i (.assign (.tmp c)) none)
 (h:∀T',T'.size=154->T'[i]?=some (.int .i64 (m+1:Nat))->(∀k,k≠i->k≠b->k≠c->T'[k]?=T[k]?)->Iv zone Sh (fun k=>gX k=true) ⟨T',[]⟩ w->Q .normal ⟨T',[]⟩ w Sh):a1A Tryz.prog 3 ops [0,1,2] Q ⟨T,[]⟩ w Sh:=by
 refine O7 h0 wn0 hT hb.1 (a0a (G9 hi)) fun T1 s1 g1 k1=>?_;refine O7 h1 wn0 s1 hb.2.1 (b9E hm (G9 g1) rfl) fun T2 s2 g2 k2=>?_;refine O7 h2 wn0 s2 hb.2.2.1 (a2A (G9 g2)) fun T3 s3 g3 k3=>?_;refine a1B (h T3 s3 g3 (fun k q1 q2 q3=>(k3 k q1).trans ((k2 k q3).trans (k1 k q2))) (hI.keep fun q _=>?_));by_cases e1:q=i
 ·subst e1;exact .inr ⟨_,g3,.int _ _⟩
 by_cases e2:q=c
 ·subst e2;exact .inr ⟨_,(k3 _ e1).trans g2,.int _ _⟩
 by_cases e3:q=b
 ·subst e3;exact .inr ⟨_,(k3 _ e1).trans ((k2 _ e2).trans g1),.int _ _⟩
 ·exact .inl ((k3 q e1).trans ((k2 q e2).trans (k1 q e3)))
structure FlJ(F Sh:Nat->Prop)(a rb gen:Nat)(ids:List Int)(bss:List (List UInt8))(E:Dk.D)(w:World)(T T':Array Value)(w':World):Prop where
 size:T'.size=154
 keep:∀k,k=1\/k=6\/k=7\/k=12\/k=15->T'[k]?=T[k]?
 iv:Iv zone Sh (fun k=>gX k=true) ⟨T',[]⟩ w'
 disk:∃E',y9 w' F a E'/\Like E E'
 chh:Chh F w w'
 st:Held w' F (fun W=>a0I W rb gen ids bss)
omit[To.Lo] in
theorem FlJ.frame{rb gen:Nat}{ids:List Int}{bss:List (List UInt8)}{T' T'':Array Value}{w':World}(h:FlJ F Sh a rb gen ids bss E w T T' w')(hs:T''.size=154)(hk:∀k,k=1\/k=6\/k=7\/k=12\/k=15->T''[k]?=T'[k]?)(hI:Iv zone Sh (fun k=>gX k=true) ⟨T'',[]⟩ w'):FlJ F Sh a rb gen ids bss E w T T'' w':=
 ⟨hs,fun k hk'=>(hk k hk').trans (h.keep k hk'),hI,h.disk,h.chh,h.st⟩
omit[To.Lo] in
theorem b2Q{c:Code}(h:c∈[b60,b61]):Zn.CodeP zone c/\Zn.CodeU (fun k=>gX k=true) c:=by
 have:=List.all_eq_true.1 b9D c h;simp only[Bool.and_eq_true] at this;exact⟨Zn.cOK.sound this.1,Zn.useB.sound this.2⟩
section
variable{rb gen n bc:Nat}{ids:List Int}{bss:List (List UInt8)}{ba:Option Addr}
theorem b9H{ad:Addr}{u:Int}(h1:T[1]?=some (.slice (some ad) n bc))(h6:T[6]?=some (y8 a))(h12:T[12]?=some (y8 rb))(hn:0<n)(hids:a4j ids)(hE:∀x∈E.ids,(E.node x).data.length<=1099511627776)
 (hc:w.cell? (ad.add 0)=some (.int .u64 u))(hlo:ad.block<Lo.n)(hbw:ad.block<w.heap.size)(hbF:¬F ad.block)(hu:0<=u/\u<=18446744073709551615){T0:Array Value}{w0:World}(hJ:FlJ F Sh a rb gen ids bss E w T T0 w0)(h16:T0[16]?=some (.int .i64 0))
 (h:∀T' w',FlJ F Sh a rb gen ids bss E w T T' w'->T'[16]?=some (.int .i64 0)->Q .normal ⟨T',[]⟩ w' Sh):wpT Tryz.prog 3 (.block 1 (.seq (.region 17 (Code.ops c4r) false) (.block 2 (.loop flM)))) Q ⟨T0,[]⟩ w0 Sh:=by
 have eb:(ad.add 0).block=ad.block:=by unfold Addr.add;split<;>rfl
 refine a4v (I4 (a0Q ?_));rw[show List.range (Code.ops c4r).size=[0] by kernel_rfl];refine b9F (i:=17) (v:=.int .i64 (0:Nat)) (x:=.const (.int .i64 0)) hJ.size (by decide) hJ.iv (.of (by kernel_rfl)) rfl ⟨_,rfl⟩ fun T1 s1 g1 k1 hI1=>a1B ?_;have hJ1:FlJ F Sh a rb gen ids bss E w T T1 w0:=hJ.frame s1 (fun k hk=>k1 k (by omega)) hI1;have h16':T1[16]?=some (.int .i64 0):=(k1 16 (by decide)).trans h16;show wpT _ _ _ _ _ _ _;refine a4v (b3z (N:=ids.length) (fun m aa ww SS=>SS=Sh/\∃(k:Nat)(T':Array Value),aa=⟨T',[]⟩/\m+k=ids.length/\T'[17]?=some (.int .i64 k)/\T'[16]?=some (.int .i64 0)/\FlJ F Sh a rb gen ids bss E w T T' ww) ⟨rfl,0,T1,rfl,rfl,g1,h16',hJ1⟩ ?_);rintro m aa ww SS ⟨rfl,k,T2,rfl,hmk,g17,g16,hJ2⟩;have f12:=(hJ2.keep 12 (by omega)).trans h12;have hcu:=b2Q (c:=b60) (by simp);have hcu2:=b2Q (c:=b61) (by simp);rw[c4u];refine I4 (I4 (piece (fun w=>c5R T2 (decide (k<ids.length)) w) hJ2.iv hcu.1 hcu.2 (fun τ p=>c2t hJ2.size f12 g17 hJ2.st.to_tp.get) ?_));rintro e ⟨T3,d3⟩ w3 τ p τ' p' q;cases e<;>first|exact q.elim|skip
 obtain⟨q1,q2,q3,q4⟩:=q;dsimp only at q1 q2 q3;subst q1;refine⟨.inl rfl,fun hI3 hz3=>?_⟩;have c3:Chh (fun _=>False) ww w3:=.eq q4;have hJ3:FlJ F SS a rb gen ids bss E w T T3 w3:=⟨q2.size.trans hJ2.size,fun k' hk'=>(q2.keep k' (by rcases hk' with rfl|rfl|rfl|rfl|rfl<;>rfl)).trans (hJ2.keep k' hk'),hI3,by
  obtain⟨E',d1,d2⟩:=hJ2.disk;exact⟨E',d1.frame (fun b hb=>c3.block b (d1.low b hb) fun h=>h) c3.size,d2⟩,hJ2.chh.trans (c3.less fun _ _ h=>h.elim),hJ2.st.chh (c3.less fun _ _ h=>h.elim) (by obtain⟨E',d1,d2⟩:=hJ2.disk;exact d1.low)⟩
 have f17:T3[17]?=some (.int .i64 k):=(q2.keep 17 rfl).trans g17;have f16:T3[16]?=some (.int .i64 0):=(q2.keep 16 rfl).trans g16;refine b3y (G9 q3) ?_;by_cases hk:k<ids.length
 ·rw[decide_eq_true hk];refine b3w ?_;show wpT _ _ _ _ _ _ _;have f12':=(hJ3.keep 12 (by omega)).trans h12;refine I4 (a4v (I4 (piece (fun w=>c5S T3 (strV (D7 G8 (ids.getD k 0).toNat)) w) hJ3.iv hcu2.1 hcu2.2 (fun τ p=>c2u hJ3.size f12' f17 hJ3.st.to_tp.get hids hk) ?_)));rintro e ⟨T4,d4⟩ w4 τ p τ' p' q;cases e<;>first|exact q.elim|skip
  obtain⟨r1,r2,r3,r4⟩:=q;dsimp only at r1 r2 r3;subst r1;refine⟨.inl rfl,fun hI4 hz4=>?_⟩;have c4:Chh F w3 w4:=.ext r4;have hJ4:FlJ F SS a rb gen ids bss E w T T4 w4:=⟨r2.size.trans hJ3.size,fun k' hk'=>(r2.keep k' (by rcases hk' with rfl|rfl|rfl|rfl|rfl<;>rfl)).trans (hJ3.keep k' hk'),hI4,by
   obtain⟨E',d1,d2⟩:=hJ3.disk;exact⟨E',d1.frame (fun b hb=>r4.block b (d1.low b hb)) c4.size,d2⟩,hJ3.chh.trans c4,hJ3.st.chh c4 (by obtain⟨E',d1,d2⟩:=hJ3.disk;exact d1.low)⟩
  have p17:T4[17]?=some (.int .i64 k):=(r2.keep 17 rfl).trans f17;have p16:T4[16]?=some (.int .i64 0):=(r2.keep 16 rfl).trans f16;have p6:=(hJ4.keep 6 (by omega)).trans h6;have p1:=(hJ4.keep 1 (by omega)).trans h1;obtain⟨E',d1,d2⟩:=hJ4.disk;have hv:VP (Zf zone SS w4.heap.size) (y8 a):=by
   have:=hI4.tmps 6 rfl;dsimp only at this;rwa [b9t p6] at this
  refine c4w (E:=E') hJ4.size p6 r3 p1 p16 hn ?_ hlo hI4.W hv d1 ?_ hu (fun x hx=>by rw[d2.len];exact hE x (d2.ids▸hx)) fun T5 w5 E5 s5 k5 hD5 hL5 hC5 hW5=>?_
  ·exact(World.cell?_of_block (hJ4.chh.block _ (by rw[eb];exact hbw) (by rw[eb];exact hbF))).trans hc
  ·have:(D7 G8 (ids.getD k 0).toNat).length=11:=by simp[D7,G8]
   rw[this];decide
  have hle:Le (Zf zone SS w4.heap.size) (Zf zone SS w5.heap.size):=⟨rfl,rfl,rfl,fun b h=>⟨Nat.lt_of_lt_of_le h.1 hC5.size,h.2⟩⟩;have hI5:Iv zone SS (fun k=>gX k=true) ⟨T5,[]⟩ w5:=by
   refine⟨fun t ht=>?_,fun d hd=>(by cases hd),hW5⟩;have hk:t<96\/102<t:=by
    rcases Nat.lt_or_ge t 96 with h|h
    ·exact .inl h
    ·rcases Nat.lt_or_ge 102 t with h2|h2
     ·exact .inr h2
     ·exfalso;unfold gX at ht;simp[h,h2] at ht
   show VP _ (T5.getD t undef);rw[Array.getD_eq_getD_getElem?,k5 t hk,<-Array.getD_eq_getD_getElem?];exact(hI4.tmps t ht).mono hle
  have hJ5:FlJ F SS a rb gen ids bss E w T T5 w5:=⟨s5,fun k' hk'=>(k5 k' (by omega)).trans (hJ4.keep k' hk'),hI5,⟨E5,hD5,d2.trans hL5⟩,hJ4.chh.trans hC5,hJ4.st.chh hC5 d1.low⟩;show wpT _ _ _ _ _ _ _;refine a0Q ?_;rw[show List.range (Code.ops c5P).size=[0,1,2] by kernel_rfl];have hkl:=hids.1;refine b9G (i:=17) (b:=85) (c:=86) (m:=k) s5 (by decide) (by omega) hI5 ((k5 17 (by decide)).trans p17) (.of (by kernel_rfl)) (.of (by kernel_rfl)) (.of (by kernel_rfl)) fun T6 s6 g6 k6 hI6=>?_;exact⟨m - 1,by omega,rfl,k+1,T6,rfl,by omega,g6,(k6 16 (by decide) (by decide) (by decide)).trans ((k5 16 (by decide)).trans p16),hJ5.frame s6 (fun k' hk'=>k6 k' (by omega) (by omega) (by omega)) hI6⟩
 ·rw[decide_eq_false hk];refine b3x ?_;show a5m 2 _ (.exit 2) _ _ _;simp only[a5m,if_true];exact h T3 w3 hJ3 f16
theorem c4x(hT:T.size=154)(hI:Iv zone Sh (fun k=>gX k=true) ⟨T,[]⟩ w)(h1:T[1]?=some (.slice ba n bc))(h6:T[6]?=some (y8 a))(h12:T[12]?=some (y8 rb))(hids:a4j ids)(hD:y9 w F a E)(hE:∀x∈E.ids,(E.node x).data.length<=1099511627776)
 (hst:Held w F (fun W=>a0I W rb gen ids bss))(hb:0<n->∃ad u,ba=some ad/\w.cell? (ad.add 0)=some (.int .u64 u)/\(0<=u/\u<=18446744073709551615)/\ad.block<Lo.n/\¬F ad.block)
 (h:∀T' w',FlJ F Sh a rb gen ids bss E w T T' w'->Q .normal ⟨T',[]⟩ w' Sh):wpT Tryz.prog 3 (U0 11) Q ⟨T,[]⟩ w Sh:=by
 rw[c5Q];refine I4 (a0Q ?_);rw[show List.range (Code.ops c5N).size=[0] by kernel_rfl];have hJ:FlJ F Sh a rb gen ids bss E w T T w:=⟨hT,fun _ _=>rfl,hI,⟨E,hD,Like.refl E⟩,.refl F w,hst⟩;refine b9F (i:=16) (v:=.int .i64 (0:Nat)) (x:=.const (.int .i64 0)) hT (by decide) hI (.of (by kernel_rfl)) rfl ⟨_,rfl⟩ fun T1 s1 g1 k1 hI1=>a1B ?_;have hJ1:=hJ.frame s1 (fun k hk=>k1 k (by omega)) hI1;show wpT _ _ _ _ _ _ _;refine a4v (b3z (N:=1) (fun m aa ww SS=>SS=Sh/\∃(i:Nat)(T':Array Value),aa=⟨T',[]⟩/\m+i=1/\T'[16]?=some (.int .i64 i)/\FlJ F Sh a rb gen ids bss E w T T' ww) ⟨rfl,0,T1,rfl,rfl,g1,hJ1⟩ ?_);rintro m aa ww SS ⟨rfl,i,T2,rfl,hmi,g16,hJ2⟩;rw[c4t];refine I4 (I4 (c4v (i:=i) hJ2.size ((hJ2.keep 1 (by omega)).trans h1) g16 fun T3 s3 g3 k3=>?_));have hI3:Iv zone SS (fun k=>gX k=true) ⟨T3,[]⟩ ww:=hJ2.iv.keep fun t ht=>.inl (k3 t (by
  rcases Nat.lt_or_ge t 68 with h|h
  ·exact .inl h
  ·rcases Nat.lt_or_ge 75 t with h2|h2
   ·exact .inr h2
   ·exfalso;unfold gX at ht;simp[h,h2] at ht))
 have hJ3:=hJ2.frame s3 (fun k hk=>k3 k (by omega)) hI3;have f16:T3[16]?=some (.int .i64 i):=(k3 16 (by omega)).trans g16;show wpT _ _ _ _ _ _ _;refine b3y (G9 g3) ?_;by_cases hi:i<n/\i<1
 ·rw[decide_eq_true hi.1,decide_eq_true hi.2];refine b3w ?_;show wpT _ _ _ _ _ _ _;obtain rfl:i=0:=by omega
  obtain⟨ad,u,rfl,hc,hu,hlo,hF⟩:=hb hi.1;have hbw:ad.block<w.heap.size:=by
   have eb:(ad.add 0).block=ad.block:=by unfold Addr.add;split<;>rfl
   rw[<-eb];exact World.block_lt_of_cell? w _ hc
  refine I4 (b9H h1 h6 h12 hi.1 hids hE hc hlo hbw hF hu hJ3 f16 fun T4 w4 hJ4 g4=>?_);show wpT _ _ _ _ _ _ _;refine a0Q ?_;rw[show List.range (Code.ops c5O).size=[0,1,2] by kernel_rfl];refine b9G (i:=16) (b:=76) (c:=77) (m:=0) hJ4.size (by decide) (by omega) hJ4.iv g4 (.of (by kernel_rfl)) (.of (by kernel_rfl)) (.of (by kernel_rfl)) fun T5 s5 g5 k5 hI5=>?_;exact⟨0,by omega,rfl,1,T5,rfl,rfl,g5,hJ4.frame s5 (fun k hk=>k5 k (by omega) (by omega) (by omega)) hI5⟩
 ·have hc:(decide (i<n)&&decide (i<1))=false:=by
   rw[Bool.and_eq_false_iff];by_cases h:i<n
   ·exact .inr (decide_eq_false fun h2=>hi ⟨h,h2⟩)
   ·exact .inl (decide_eq_false h)
  rw[hc];refine b3x ?_;show a5m 0 _ (.exit 0) _ _ _;simp only[a5m,if_true];exact h T3 ww hJ3
end
end
end
section
open Go.RowKit Go.Lib Go.Maps Dk Pl
open Go.Conc Go.Mw
open Zn (tp Full WPs VP Zf Le)
open To
set_option linter.unusedSectionVars false
noncomputable def go5:Array Oper:=Code.ops (U0 4)
theorem b9I:U0 4=.region 5 go5 false:=by kernel_rfl
theorem b5V{ρ:Operand->Value}{x:Operand}{i:Nat}{c:Array Value}{v V:Value}(h:ρ x=V)(hV:V=.tuple c)(hc:c[i]?=some v):Runs Tryz.prog ρ (.extract x i) v:=fun o ho w=>by
 subst hV;constructor<;>simp[go_sem,execOp,ho,h,hc]
noncomputable def X4:List Code:=[U0 5,U0 6,U0 7,U0 8,U0 9,U0 10,U6 12]
theorem b66:(X4.all fun c=>Zn.cOK zb c&&Zn.useB gX c)=true:=by kernel_rfl
theorem U4{c:Code}(h:c∈X4):Zn.CodeP zone c/\Zn.CodeU (fun k=>gX k=true) c:=by
 have:=List.all_eq_true.1 b66 c h;simp only[Bool.and_eq_true] at this;exact⟨Zn.cOK.sound this.1,Zn.useB.sound this.2⟩
section
variable[Go.ConcR.Payload][To.Lo]{Sh:Nat->Prop}{w:World}{T:Array Value}{Q:Exit->Act->World->(Nat->Prop)->Prop}{F:Nat->Prop}{a:Nat}{D:Dk.D}
theorem b9J(hI:Iv zone Sh (fun k=>gX k=true) ⟨T,[]⟩ w)(hT:T.size=154)(h6:T[6]?=some (y8 a))(hgl:Tryz.prog.globals.size<=w.heap.size)(hD:y9 w F a D)(hds:∀x∈D.ids,(D.node x).data.length<=1099511627776)(hl:Held w F a0F)
 (hnext:∀x y w' Sh' T',b50 F Sh a D w (.tuple #[x,y]) w' Sh'->T'.size=154->T'[7]?=some x->T'[8]?=some y->(∀k,k=1\/k=6->T'[k]?=T[k]?)->Iv zone Sh' (fun k=>gX k=true) ⟨T',[]⟩ w'->wpT Tryz.prog 3 (U6 5) Q ⟨T',[]⟩ w' Sh'):wpT Tryz.prog 3 (U6 4) Q ⟨T,[]⟩ w Sh:=by
 have hv:VP (Zf zone Sh w.heap.size) (y8 a):=by
  have:=hI.tmps 6 rfl;dsimp only at this;rw[b9t h6] at this;exact this
 rw[c5E,b9I];refine I4 (a0Q ?_);rw[show List.range go5.size=[0,1,2,3,4,5,6] by kernel_rfl];refine O7 (d:=37) (op:=.move (.tmp 6)) (g:=none) (.of (by kernel_rfl)) wn0 hT (by decide) (a0a (G9 h6)) fun T1 s1 g1 k1=>?_;refine a7A (d:=38) (f:=14) (args:=#[.tmp 37]) (ats:=#[30]) (Post:=b50 F Sh a D w) (.of (by kernel_rfl)) s1 (by decide) ?_ fun v w' Sh' T2 hP s2 g2 k2=>?_
 ·have e:(#[Operand.tmp 37]).map (Act.eval ⟨T1,[]⟩)=#[y8 a]:=by
   simp only[List.map_toArray,List.map_cons,List.map_nil];rw[G9 g1]
  rw[e];exact b7p hI.W hgl hv hD hds hl
 obtain⟨x,y,rfl⟩:∃x y,v=.tuple #[x,y]:=by
  rcases hP.res with⟨_,_,y,h,_⟩|⟨sb,gen,ids,bss,_,_,_,h,_⟩
  ·exact⟨_,_,h⟩
  ·exact⟨_,_,h⟩
 have hxy:VP (Zf zone Sh' w'.heap.size) x/\VP (Zf zone Sh' w'.heap.size) y:=by
  have:=hP.vp
  cases this with
  | tuple c h=>exact⟨h x (by simp),h y (by simp)⟩
 refine O7 (d:=36) (op:=.move (.tmp 38)) (g:=none) (.of (by kernel_rfl)) wn0 s2 (by decide) (a0a (G9 g2)) fun T3 s3 g3 k3=>?_;refine O7 (d:=39) (op:=.extract (.tmp 36) 0) (g:=none) (.of (by kernel_rfl)) wn0 s3 (by decide) (b5V (G9 g3) rfl rfl) fun T4 s4 g4 k4=>?_;refine O7 (d:=40) (op:=.extract (.tmp 36) 1) (g:=none) (.of (by kernel_rfl)) wn0 s4 (by decide) (b5V (G9 ((k4 36 (by decide)).trans g3)) rfl rfl) fun T5 s5 g5 k5=>?_;refine O7 (d:=7) (op:=.assign (.tmp 39)) (g:=none) (.of (by kernel_rfl)) wn0 s5 (by decide) (a2A (G9 ((k5 39 (by decide)).trans g4))) fun T6 s6 g6 k6=>?_;refine O7 (d:=8) (op:=.assign (.tmp 40)) (g:=none) (.of (by kernel_rfl)) wn0 s6 (by decide) (a2A (G9 ((k6 40 (by decide)).trans g5))) fun T7 s7 g7 k7=>?_;have hle:Le (Zf zone Sh w.heap.size) (Zf zone Sh' w'.heap.size):=⟨rfl,rfl,rfl,fun b h=>⟨Nat.lt_of_lt_of_le h.1 hP.chh.size,fun hs=>h.2 (hP.old b h.1 hs)⟩⟩;refine a1B (show wpT _ _ _ _ _ _ _ from hnext x y w' Sh' T7 hP s7 ((k7 7 (by decide)).trans g6) g7 (fun k hk=>?_) ⟨fun t ht=>?_,fun d hd=>(by cases hd),hP.W⟩)
 ·exact(k7 k (by omega)).trans ((k6 k (by omega)).trans ((k5 k (by omega)).trans ((k4 k (by omega)).trans ((k3 k (by omega)).trans ((k2 k (by omega)).trans (k1 k (by omega)))))))
 ·show VP _ (T7.getD t undef);rw[Array.getD_eq_getD_getElem?];by_cases e7:t=8
  ·subst e7;rw[g7];exact hxy.2
  rw[k7 t e7];by_cases e6:t=7
  ·subst e6;rw[g6];exact hxy.1
  rw[k6 t e6];by_cases e5:t=40
  ·subst e5;rw[g5];exact hxy.2
  rw[k5 t e5];by_cases e4:t=39
  ·subst e4;rw[g4];exact hxy.1
  rw[k4 t e4];by_cases e3:t=36
  ·subst e3;rw[g3];exact hP.vp
  rw[k3 t e3];by_cases e2:t=38
  ·subst e2;rw[g2];exact hP.vp
  rw[k2 t e2];by_cases e1:t=37
  ·subst e1;rw[g1];exact hv.mono hle
  rw[k1 t e1,<-Array.getD_eq_getD_getElem?];exact(hI.tmps t ht).mono hle
omit[Go.ConcR.Payload][To.Lo] in
theorem y9.chh0{w':World}(h:y9 w F a D)(c:Chh (fun _=>False) w w'):y9 w' F a D:=h.frame (fun b hb=>c.block b (h.low b hb) fun h=>h) c.size
omit[Go.ConcR.Payload][To.Lo] in
theorem Chh.any{w':World}(c:Chh (fun _=>False) w w'):Chh F w w':=c.less fun _ _ h=>h.elim
abbrev c2y(F:Nat->Prop)(w:World):Exit->Act->World->(Nat->Prop)->Prop:=bodyT Tryz.prog Tryz.f3 fun v w' _=>v=.bool true/\Chh F w w'
theorem b9K{n bc:Nat}{ba:Option Addr}(hI:Iv zone Sh (fun k=>gX k=true) ⟨T,[]⟩ w)(hT:T.size=154)(h1:T[1]?=some (.slice ba n bc))(h6:T[6]?=some (y8 a))(hgl:Tryz.prog.globals.size<=w.heap.size)(hD:y9 w F a D)(hc:D.Calm)(hfit:D.Fit)(hL:Laid w)(hF:∀b,F b->7<b)(hl:Held w F a0F)
 (hb:0<n->∃ad u,ba=some ad/\w.cell? (ad.add 0)=some (.int .u64 u)/\(0<=u/\u<=18446744073709551615)/\ad.block<Lo.n/\¬F ad.block):
 wpT Tryz.prog 3 (U6 4) (c2y F w) ⟨T,[]⟩ w Sh:=by
 refine b9J hI hT h6 hgl hD hfit.data hl ?_;intro x y w' Sh' T' hP hT' h7 h8 hk hI';have hkc:=b5c hc;have heldL:Held w F Laid:=by
  unfold Laid at hL;refine⟨fun b=>b=0,fun b hb'=>?_,fun W' hw=>(World.cell?_of_block (hw _ rfl)).trans hL⟩;subst hb';exact⟨cell_lt hL,fun h=>absurd (hF _ h) (by decide)⟩
 have hD':y9 w' F a D:=by have:=hP.disk;rw[hkc.1] at this;exact this
 have hL':Held w' F Laid:=heldL.chh hP.chh hD.low;obtain⟨er,hEr,hcd⟩:∃er,Held w' F (fun W=>ErrAt W y er)/\er=D.kopen.2.1:=by
  rcases hP.res with⟨r1,r2,y',e,hE⟩|⟨sb,gen,ids,bss,r1,r2,hids,e,hst⟩
  ·have hy:y=y':=by
    injection e with e;have:=congrArg (fun A:Array Value=>A[1]?) e;simpa using this
   subst hy;exact⟨_,hE,rfl⟩
  ·have hy:y=.nilIface:=by
    injection e with e;have:=congrArg (fun A:Array Value=>A[1]?) e;simpa using this
   subst hy;exact⟨.ok,(Held.true w' F).mono fun _ _=>rfl,r2.symm⟩
 have hcode:er.code=(P9 D.files).2.1:=by rw[hcd];exact hkc.2.2.1
 have f6':T'[6]?=some (y8 a):=(hk 6 (.inr rfl)).trans h6;show wpT _ _ _ _ _ _ _;rw[c5F];refine I4 (piece (fun w=>QN5 T' er.code w) hI' (U4 (by simp[X4])).1 (U4 (by simp[X4])).2 (fun τ p=>c4n hT' h8 hL'.to_tp.get hEr.to_tp.get) ?_);rintro e ⟨T1,d1⟩ w1 τ p τ' p' q;cases e<;>first|exact q.elim|skip
 obtain⟨q1,q2,q3,q4⟩:=q;dsimp only at q1 q2 q3;subst q1;have c1:Chh F w' w1:=.ext q4;have hD1:y9 w1 F a D:=hD'.frame (fun b hb=>q4.block b (hD'.low b hb)) c1.size;have hT1:=q2.size.trans hT';refine⟨.inl rfl,fun hI1 _=>?_⟩;clear q4;show wpT _ _ _ _ _ _ _;rw[c5G];refine I4 (piece (fun w=>QN6 F a D T1 w) hI1 (U4 (by simp[X4])).1 (U4 (by simp[X4])).2 (fun τ p=>c4o hT1 ((q2.keep 6 rfl).trans f6') hD1.to_tp hc hfit) ?_);rintro e ⟨T2,d2⟩ w2 τ p τ' p' q;cases e<;>first|exact q.elim|skip
 obtain⟨r1,r2,fv,rows,r3,r4,r5,r6⟩:=q;dsimp only at r1 r2 r3;subst r1;have c2:Chh F w1 w2:=.of r6;have hD2:y9 w2 F a D:=r5.of_tp;have hfl:a2s w2 fv D.files:=r4.files;have hT2:=r2.size.trans hT1;refine⟨.inl rfl,fun hI2 _=>?_⟩;clear r4 r5 r6;show wpT _ _ _ _ _ _ _;rw[c5H];refine I4 (piece (fun w=>QN7 D.files T2 w) hI2 (U4 (by simp[X4])).1 (U4 (by simp[X4])).2 (fun τ p=>c4p hT2 r3 hfl (b9s hD2.wf fun x hx=>hfit.data x hx)) ?_);rintro e ⟨T3,d3⟩ w3 τ p τ' p' q;cases e<;>first|exact q.elim|skip
 obtain⟨s1,s2,v,s3,s4,v',ev,s5,s6⟩:=q;dsimp only at s1 s2 s3 s4;subst s1;obtain rfl:v'=v:=by
  injection ev with ev;injection ev with ev;have:=congrArg (fun A:Array Value=>A[0]?) ev;simpa using this.symm
 have c3:Chh F w2 w3:=.ext s5;have hD3:y9 w3 F a D:=hD2.frame (fun b hb=>s5.block b (hD2.low b hb)) c3.size;have hT3:=s2.size.trans hT2;refine⟨.inl rfl,fun hI3 _=>?_⟩;clear s5 ev;have c03:Chh F w w3:=hP.chh.trans (c1.trans (c2.trans c3));have g9:T3[9]?=some (.int .i64 er.code):=(s2.keep 9 rfl).trans ((r2.keep 9 rfl).trans q3);have keep3:∀k,k=1\/k=6\/k=7->T3[k]?=T'[k]?:=fun k hk=>by
  have e1:cg5 k=false:=by rcases hk with rfl|rfl|rfl<;>rfl
  have e2:cg6 k=false:=by rcases hk with rfl|rfl|rfl<;>rfl
  have e3:cg7 k=false:=by rcases hk with rfl|rfl|rfl<;>rfl
  exact(s2.keep k e3).trans ((r2.keep k e2).trans (q2.keep k e1))
 show wpT _ _ _ _ _ _ _;rw[c5I];rcases hP.res with⟨o1,o2,y',e,hE⟩|⟨sb,gen,ids,bss,o1,o2,hids,e,hst⟩
 ·
  have hne:er.code≠0:=by rw[hcd];exact hkc.2.2.2.2.1 o1
  rw[<-hcode] at s4;refine I4 (piece (fun w=>GB8 w) hI3 (U4 (by simp[X4])).1 (U4 (by simp[X4])).2 (fun τ p=>b4e T3 er.code hT3 g9 s4 _ hne) ?_);rintro e a4 w4 τ p τ' p' q;cases e<;>first|exact q.elim|skip
  obtain⟨t1,t2,t3⟩:=q;exact⟨.inr rfl,fun _ _=>⟨t1,_,resultsC_tmp rfl a4.tmps,b9t t2,c03.trans (.eq t3)⟩⟩
 ·have hx:x=.pointer (some ⟨sb,0,none⟩)/\y=.nilIface:=by
   injection e with e;have h0:=congrArg (fun A:Array Value=>A[0]?) e;have h1:=congrArg (fun A:Array Value=>A[1]?) e;exact⟨by simpa using h0,by simpa using h1⟩
  obtain⟨rfl,rfl⟩:=hx;have hro:P9 D.files=(some (gen,ids,bss),0,[]):=by
   have e1:=hkc.2.1;have e2:=hkc.2.2.1;rw[o1] at e1;rw[o2] at e2;have hn:=b2c D.files (by rw[<-e1];simp);exact Prod.ext e1.symm (Prod.ext e2.symm hn)
  have her:er.code=0:=by rw[hcd,o2];rfl
  rw[her] at g9;rw[hro] at s4 s6;obtain⟨rb,rfl,hrn,hbss⟩:∃rb,v'=y8 rb/\c0W w3 w2.heap.size rb gen ids bss/\∀i,(bss.getD i []).length<=1099511627776:=by
   rcases s6 with⟨h,_⟩|⟨g,i,b,rb,h,_,h3,h4,_,h5⟩
   ·cases h
   ·injection h with h;injection h with q1 h;injection h with q2 q3;subst q1;subst q2;subst q3;exact⟨rb,h4,h5,h3⟩
  have hrs3:Held w3 F (fun W=>a0I W rb gen ids bss):=hrn.held fun b hb=>hD2.low b hb;have hst3:Held w3 F (fun W=>a8j W sb a gen ids bss):=(((hst.chh c1 hD'.low).chh c2 hD1.low).chh c3 hD2.low);have hbl:bss.length=ids.length:=by obtain⟨_,_,_,_,_,_,_,_,_,h⟩:=hst.get;exact h
  have hid:=hids.1;refine I4 (piece (fun w=>GG8 T3 w) hI3 (U4 (by simp[X4])).1 (U4 (by simp[X4])).2 (fun τ p=>b6Y T3 hT3 s4 _) ?_);rintro e ⟨T4,d4⟩ w4 τ p τ' p' q;cases e<;>first|exact q.elim|skip
  obtain⟨t1,hT4,t3,t4⟩:=q;dsimp only at t1 hT4 t3;subst t1;have c4:Chh (fun _=>False) w3 w4:=.eq t4;refine⟨.inl rfl,fun hI4 _=>?_⟩;clear t4;have u7:T4[7]?=some (y8 sb):=(t3 7 (by omega)).trans ((keep3 7 (by omega)).trans h7);have u9:T4[9]?=some (.int .i64 0):=(t3 9 (by omega)).trans g9;have u12:T4[12]?=some (y8 rb):=(t3 12 (by omega)).trans s3;have u1:T4[1]?=some (.slice ba n bc):=(t3 1 (by omega)).trans ((keep3 1 (by omega)).trans ((hk 1 (.inl rfl)).trans h1));have u6:T4[6]?=some (y8 a):=(t3 6 (by omega)).trans ((keep3 6 (by omega)).trans f6');show wpT _ _ _ _ _ _ _;rw[c5J];refine I4 (piece (fun w=>GG9 T4 sb w) hI4 (U4 (by simp[X4])).1 (U4 (by simp[X4])).2 (fun τ p=>b6Z T4 sb hT4 u7 u9 _) ?_);rintro e ⟨T5,d5⟩ w5 τ p τ' p' q;cases e<;>first|exact q.elim|skip
  obtain⟨t1,hT5,v7,t3',t4⟩:=q;dsimp only at t1 hT5 v7 t3';subst t1;have c5:Chh (fun _=>False) w4 w5:=.eq t4;refine⟨.inl rfl,fun hI5 _=>?_⟩;clear t4;have v12:T5[12]?=some (y8 rb):=(t3' 12 (by omega)).trans u12;have v1:T5[1]?=some (.slice ba n bc):=(t3' 1 (by omega)).trans u1;have v6:T5[6]?=some (y8 a):=(t3' 6 (by omega)).trans u6;have hD5:y9 w5 F a D:=(hD3.chh0 c4).chh0 c5;have c35:Chh F w3 w5:=c4.any.trans c5.any;have hrs5:=hrs3.chh c35 hD3.low;have hst5:=hst3.chh c35 hD3.low;show wpT _ _ _ _ _ _ _;rw[c4l];refine I4 (piece (fun w=>c5K (J7 bss) T5 w) hI5 (U4 (by simp[X4])).1 (U4 (by simp[X4])).2 (fun τ p=>c2o hT5 v12 hrs5.to_tp.get hid hbss) ?_);rintro e ⟨T6,d6⟩ w6 τ p τ' p' q;cases e<;>first|exact q.elim|skip
  obtain⟨t1,k6,u,s15,hrow,t4⟩:=q;dsimp only at t1 k6 s15;subst t1;have c6:Chh F w5 w6:=.ext t4;have hD6:y9 w6 F a D:=hD5.frame (fun b hb=>t4.block b (hD5.low b hb)) c6.size;have hT6:=k6.size.trans hT5;obtain⟨L,hLL⟩:∃L,L=a6S (J7 bss):=⟨_,rfl⟩;replace hrow:w6.ownsRow w5.heap.size 60 2 u (a6S (J7 bss)).length ((a6S (J7 bss)).flatMap I9):=hrow;rw[<-hLL] at hrow;obtain⟨ua,uc,rfl⟩:=ownsRow_form hrow;have hrow6:Held w6 F (fun W=>W.ownsRow w5.heap.size 60 2 (.slice ua L.length uc) L.length (L.flatMap I9)):=
   .of (Dep.row hrow) fun b hb=>⟨(World.ownsRow.lt hrow b hb).2,fun hf=>by have:=hD5.low b hf;have:=(World.ownsRow.lt hrow b hb).1;omega⟩
  refine⟨.inl rfl,fun hI6 _=>?_⟩;clear t4;have c06:Chh F w w6:=c03.trans (c35.trans c6);show wpT _ _ _ _ _ _ _;rw[c4m];refine I4 (c4x hT6 hI6 ((k6.keep 1 rfl).trans v1) ((k6.keep 6 rfl).trans v6) ((k6.keep 12 rfl).trans v12) hids hD6 hfit.data (hrs5.chh c6 hD5.low) (fun hn=>?_) fun T7 w7 hJ=>?_)
  ·obtain⟨ad,uu,e1,e2,e3,e4,e5⟩:=hb hn;have eb:(ad.add 0).block=ad.block:=by unfold Addr.add;split<;>rfl
   refine⟨ad,uu,e1,(World.cell?_of_block (c06.block _ (World.block_lt_of_cell? w _ e2) (by rw[eb];exact e5))).trans e2,e3,e4,e5⟩
  ·obtain⟨E,hD7,hLk⟩:=hJ.disk;have w7s:T7[7]?=some (y8 sb):=(hJ.keep 7 (by omega)).trans ((k6.keep 7 rfl).trans v7);have w15:T7[15]?=some (.slice ua L.length uc):=(hJ.keep 15 (by omega)).trans s15;have c67:=hJ.chh;have hlow6:=hD6.low;have c07:Chh F w w7:=c06.trans c67;show wpT _ _ _ _ _ _ _;refine piece (fun w=>c5M F w) hJ.iv (U4 (by simp[X4])).1 (U4 (by simp[X4])).2 (fun τ p=>c2r T7 hJ.size w7s w15 _ hD7.to_tp (hLk.calm hc) (hLk.fit hfit) ((hst5.chh c6 hD5.low).chh c67 hlow6).to_tp hids hbss hbl (hl.chh c07 hD.low).to_tp (heldL.chh c07 hD.low).to_tp hLL (hrow6.chh c67 hlow6).to_tp) ?_;rintro e a8 w8 τ p τ' p' q;cases e<;>first|exact q.elim|skip
   obtain⟨t1,t2,t3⟩:=q;exact⟨.inr rfl,fun _ _=>⟨t1,_,resultsC_tmp rfl a8.tmps,b9t t2,c07.trans (.of t3)⟩⟩
end
end
end Go.Proofs.YtgpbhjjajpbeeaaGreatDoor
