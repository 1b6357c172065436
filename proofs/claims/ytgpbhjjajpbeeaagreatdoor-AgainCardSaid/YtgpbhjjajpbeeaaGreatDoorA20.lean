/- A part of what the last file proves. -/
import Derived.Test.YtgpbhjjajpbeeaaGreatDoorA10
import Derived.Test.YtgpbhjjajpbeeaaGreatDoorA18
import Derived.Deep.OwnRows
import Derived.Conc.AtomicLaws
import Derived.Conc.CompanyMem
set_option linter.all false
set_option maxRecDepth 100000
set_option maxHeartbeats 6400000
open Go.Proofs.Tryz
namespace Go.Proofs.YtgpbhjjajpbeeaaGreatDoor
open Go.RowKit Go.Zn Go.Extern Go.Conc Go.Lib Go.Maps Dk Pl Go.Conc.Lib Go.ConcR.Gen Go.ConcN.Gen Go.Mw
variable{c g h r:Nat}{F:tyP}{e t:bT}
abbrev link:Go.Conc.Lib.WgLink:={add:=58,done:=60,wait:=63,relMerge:=99,disable:=100,enable:=101,inBubble:=102,associate:=103,fatal:=104,uOr:=105,uAdd:=106,raceRead:=107,uLoad:=108,uStore:=109,disassociate:=110,semrelease:=111,acquire:=113,isAssociated:=114,uCas:=115,raceWrite:=116,semacquire:=117,orU64:=157,addU64:=158,loadU64:=159,storeU64:=160,casU64:=161,tWgP:=207,tUP:=209,tAssoc:=210,tWg:=149,tAU:=146,tU64:=24,tUint:=56,tU32:=147,tPU32:=214,tPAU:=284,tPU64:=286,tNoCopy:=144,tANoCopy:=140,tAlign64:=141}
def wgLib:Go.Conc.Lib.WgLib prog link:=
 ⟨func58,func60,func63,func99,func100,func101,func102,func103,func104,func105,func106,func107,func108,func109,func110,func111,func113,func114,func115,func116,func117,func157,func158,func159,func160,func161,underlying207,runUnderlying207,sizeOf207,isAgg207,zeroValue207,underlying209,runUnderlying209,sizeOf209,isAgg209,zeroValue209,underlying210,runUnderlying210,sizeOf210,isAgg210,zeroValue210,underlying149,runUnderlying149,sizeOf149,isAgg149,zeroValue149,underlying146,runUnderlying146,sizeOf146,isAgg146,zeroValue146,underlying24,runUnderlying24,sizeOf24,isAgg24,zeroValue24,underlying56,runUnderlying56,sizeOf56,isAgg56,zeroValue56,underlying147,runUnderlying147,sizeOf147,isAgg147,zeroValue147,underlying214,runUnderlying214,sizeOf214,isAgg214,zeroValue214,underlying284,runUnderlying284,sizeOf284,isAgg284,zeroValue284,underlying286,runUnderlying286,sizeOf286,isAgg286,zeroValue286,underlying0,runUnderlying0,sizeOf0,isAgg0,zeroValue0,underlying3,runUnderlying3,sizeOf3,isAgg3,zeroValue3,underlying4,runUnderlying4,sizeOf4,isAgg4,zeroValue4,underlying9,runUnderlying9,sizeOf9,isAgg9,zeroValue9,underlying20,runUnderlying20,sizeOf20,isAgg20,zeroValue20,underlying21,runUnderlying21,sizeOf21,isAgg21,zeroValue21,aW,aW⟩
section
def fs:Nat:=13968099261131126359713065202646624295774213882799324763965390427744041519001600
def zb:ZB:={F:=λf=>fs.testBit f,T:=λ_=>true,N:=λn=>["Comparable","AssignableTo","Is","Kind","Elem","As","Unwrap","Implements"].contains n,G:=7}
def zone:Zone:=zb.zone
noncomputable def Zv(f:Nat):Bool:=!fs.testBit f||(match prog.funcs[f]? with
 | some fn=>(fn.name != "runtime.NumGoroutine")&&(match fn.body with|some c=>nU zb c|none=>true)
 | none=>true)
def codes:(List.range 263).all Zv=true:=aW
theorem c7o:∀f,fs.testBit f=true->f<263:=λf h=>by
 rcases bH f 263 with h1|h1
 ·exact h1
 ·obtain⟨k,rfl⟩:∃k,f=250+k:=⟨f - 250,aj⟩;rw[Nat.testBit_lt_two_pow (aF (by decide:fs<2^250*2^13) (by rw[Nat.pow_add];exact Nat.mul_le_mul_left _ (kF dA aj)))] at h;cases h
noncomputable def rS(f:Nat):Bool:=!fs.testBit f||(match prog.funcs[f]? with
 | some fn=>fn.body.isSome||[97,118,119,120,121,162,163,206,207,231,233,247,248,255,259,260,261,262].contains f
 | none=>true)
def d0q:(List.range 263).all rS=true:=aW
def typeAt(i:TypeInfo):Bool:=(match i.zero with|some z=>xA zb 6 z|none=>true)&&i.methods.toList.all λm=>!zb.N m.name||(match m.func with|some (f,_)=>fs.testBit f|none=>true)
def types:prog.types.toList.all typeAt=true:=aW
def globals_size:prog.globals.size=7:=aW
variable{Z':Zone}
def c9X(h:Le zone Z'):cp Z':=λt=>h.T▸(rfl:zb.T t=true)
theorem RG(h:Le zone Z'):POK Z' prog:=by
 have hty:∀(t:Nat)(i:TypeInfo),prog.types[t]?=some i->typeAt i=true:=λt i hi=>aU.1 types i (by rw[<-eH] at hi;exact aH hi);have hz:∀(t:Nat)(i:TypeInfo),prog.types[t]?=some i->pF Z' i:=λt i hi z hzz=>by have h1:=hty t i hi;unfold typeAt at h1;simp only[aI] at h1;rw[hzz] at h1;exact(xA.sound _ _ h1.1).mono h
 refine⟨λt i z hi=>(sK (Z:=Z') hz hi).1 z,h.D _ (show prog.globals.size<=7 by rw[globals_size];exact ak _),λt i _ hi m hm hN f p hf=>?_⟩;rcases bH t prog.types.size with ht|ht
 ·have h1:=hty t i (uz ht hi);unfold typeAt at h1;simp only[aI] at h1;have h2:=aU.1 h1.2 m (by simpa using hm);rw[hf] at h2;have hN':zb.N m.name=true:=by rw[h.N] at hN;exact hN
  rw[hN'] at h2;rw[h.F];exact(by simpa using h2:fs.testBit f=true)
 ·rw[(sK (Z:=Z') hz hi).2 ht] at hm;simp at hm
theorem z_f(h:Le zone Z'){f:FuncId}(hf:Z'.F f):fs.testBit f=true:=by rw[h.F] at hf;exact hf
theorem c9Y(h:Le zone Z'):∀b,b<prog.globals.size->Z'.D b:=λb hb=>h.D b (by rw[globals_size] at hb;exact Nat.le_of_lt hb)
theorem uJ{fn:Func}{x:Array Value->Sem Value}(hn:Extern.findNext fn=none)(hf:Extern.find fn=some x)(hx:∀args,AP Z' args->Sf Z' prog (VP Z') (x args)):
 (∀e args,Extern.findNext fn=some e->AP Z' args->Sf Z' prog (uI Z') (e args))/\(∀e args,Extern.find fn=some e->AP Z' args->Sf Z' prog (VP Z') (e args)):=
 ⟨λe args h=>absurd h (by rw[hn];simp),λe args h ha=>(aO (hf.symm.trans h))▸hx args ha⟩
theorem c5K{fn:Func}(hn:Extern.findNext fn=none)(hf:Extern.find fn=none):
 (∀e args,Extern.findNext fn=some e->AP Z' args->Sf Z' prog (uI Z') (e args))/\(∀e args,Extern.find fn=some e->AP Z' args->Sf Z' prog (VP Z') (e args)):=
 ⟨λe args h=>absurd h (by rw[hn];simp),λe args h=>absurd h (by rw[hf];simp)⟩
theorem c7p(h:Le zone Z'):∀f∈[97,118,119,120,121,162,163,206,207,231,233,247,248,255,259,260,261,262],∀fn,prog.funcs[f]?=some fn->
 (∀e args,Extern.findNext fn=some e->AP Z' args->Sf Z' prog (uI Z') (e args))/\(∀e args,Extern.find fn=some e->AP Z' args->Sf Z' prog (VP Z') (e args)):=by
 have hP:=RG h;have hT:=c9X h;have hG:=c9Y h;intro f hf fn hfn;simp only[bI,jG,or_false] at hf;rcases hf with rfl|rfl|rfl|rfl|rfl|rfl|rfl|rfl|rfl|rfl|rfl|rfl|rfl|rfl|rfl|rfl|rfl|rfl
 ·obtain rfl:=aO (func97.symm.trans hfn);exact uJ (x:=ReflectliteType.typeOf) aW aW λargs ha=>c2e hT hP ha
 ·obtain rfl:=aO (func118.symm.trans hfn);exact uJ (x:=Atomic.loadT (.int .i64)) aW aW λargs ha=>c2h hP _ ha
 ·obtain rfl:=aO (func119.symm.trans hfn);exact uJ (x:=λargs=>ReflectliteValue.unpack (args.getD 0 (.tuple #[]))) aW aW λargs ha=>vx hT hP (ha.getD 0 (.tuple _ kU))
 ·obtain rfl:=aO (func120.symm.trans hfn);exact uJ (x:=ReflectliteValue.methodAny (ReflectliteValue.valueError "reflectlite.Value.Type" 0) λt _ _ _=>ReflectliteType.toType t) aW aW λargs ha=>b2s hT hP (QG hT hP _ _) (λt _ _ _ _=>Ab hT hP t) ha
 ·obtain rfl:=aO (func121.symm.trans hfn);exact uJ (x:=ReflectliteValue.method (ReflectliteValue.valueError "reflectlite.Value.IsNil" 0) ReflectliteValue.isNil) aW aW λargs ha=>CH hT hP (QG hT hP _ _) (λt a fl k h=>c2f hT hP t h fl k) ha
 ·obtain rfl:=aO (func162.symm.trans hfn);exact uJ (x:=ReflectliteValue.method (ReflectliteValue.valueError "reflectlite.Value.Elem" 0) ReflectliteValue.elem) aW aW λargs ha=>CH hT hP (QG hT hP _ _) (λt a fl k h=>c5P hT hP t h fl k) ha
 ·obtain rfl:=aO (func163.symm.trans hfn);exact uJ (x:=ReflectliteValue.set) aW aW λargs ha=>c8X hT hP ha
 ·obtain rfl:=aO (func206.symm.trans hfn);exact uJ (x:=AbiNoEscape.same) aW aW λargs ha=>c7s ha
 ·obtain rfl:=aO (func207.symm.trans hfn);exact uJ (x:=BytealgMakeNoZero.makeNoZero f207.params f207.resultTypes) aW aW λargs ha=>b2v hP _ _ ha
 ·obtain rfl:=aO (func231.symm.trans hfn);exact uJ (x:=BytealgIndex.index) aW aW λargs ha=>c5Q hP hG ha
 ·obtain rfl:=aO (func233.symm.trans hfn);exact uJ (x:=BytealgIndexByte.indexByte) aW aW λargs ha=>b4Q ha
 ·obtain rfl:=aO (func247.symm.trans hfn);exact c5K aW aW
 ·obtain rfl:=aO (func248.symm.trans hfn);exact uJ (x:=ReflectliteType.abiMethod λt=>do pure (.int .u8 (<-Rtype.kind t))) aW aW λargs ha=>b4P hT hP (λt=>aA (ZE t) λ_ _=>aS (.int _ _)) args
 ·obtain rfl:=aO (func255.symm.trans hfn);exact uJ (x:=ReflectliteValue.method (pure (.int .u8 0)) λ_ _ _ k=>pure (.int .u8 (Int.ofNat k))) aW aW λargs ha=>CH hT hP (aS (.int _ _)) (λ_ _ _ _ _=>aS (.int _ _)) ha
 ·obtain rfl:=aO (func259.symm.trans hfn);exact uJ (x:=ReflectliteType.relation "AssignableTo" ReflectliteType.assignableTo) aW aW λargs ha=>IA hT hP (a9F hT hP) args
 ·obtain rfl:=aO (func260.symm.trans hfn);exact uJ (x:=ReflectliteType.method λt=>do Rtype.noPackHeld "Comparable" t;pure (.bool (<-typeInfo t).comparable)) aW aW λargs ha=>vy b2q args
 ·obtain rfl:=aO (func261.symm.trans hfn);exact uJ (x:=ReflectliteType.method ReflectliteType.elem) aW aW λargs ha=>vy (c5O hT hP) args
 ·obtain rfl:=aO (func262.symm.trans hfn);exact uJ (x:=ReflectliteType.relation "Implements" ReflectliteType.implements_) aW aW λargs ha=>IA hT hP (b1v hT hP) args
theorem kh:∀Z',Le zone Z'->t_ Z' prog:=λZ' h=>by
 have at_:∀f fn,Z'.F f->prog.funcs[f]?=some fn->Zv f=true/\rS f=true/\fs.testBit f=true:=λf fn hf _=>by have h1:=z_f h hf;have h2:=c7o f h1;exact⟨aU.1 codes f (iH.2 h2),aU.1 d0q f (iH.2 h2),h1⟩
 refine⟨RG h,λf fn hf hfn=>?_,λf fn hf hfn hb=>?_,λf fn c hf hfn hb=>?_⟩
 ·obtain⟨h1,-,h3⟩:=at_ f fn hf hfn;unfold Zv at h1;rw[h3,hfn] at h1;simp only[vM,mW,aI] at h1;simpa using h1.1
 ·obtain⟨-,h1,h3⟩:=at_ f fn hf hfn;unfold rS at h1;rw[h3,hfn] at h1;simp only[vM,mW,hb,oH] at h1;exact c7p h f (by simpa using h1) fn hfn
 ·obtain⟨h1,-,h3⟩:=at_ f fn hf hfn;unfold Zv at h1;rw[h3,hfn] at h1;simp only[vM,mW,aI,hb] at h1;exact(nU.sound h1.2).mono h
end
def Code.behind:Nat->Code->Code
 | 0,c=>c
 | n+1,c=>match c with
  | .seq _ b=>behind n b
  | c=>c
def Code.head:Code->Code
 | .seq a _=>a
 | c=>c
noncomputable def I8(n:Nat):Code:=Code.behind n (f14.body.getD .skip)
noncomputable def c6G:Code:=match Code.head (I8 8) with|.seq _ (.block _ c)=>c|c=>c
noncomputable def Jv:Code:=match c6G with|.loop c=>c|c=>c
noncomputable def Zo:Array Oper:=match Code.head (I8 9) with|.region _ a _=>a|_=>#[]
noncomputable def rn:Code:=match Jv with|.seq _ (.seq _ (.seq (.block _ c) _))=>c|c=>c
def c8p:I8 9=.seq (.region 24 Zo false) (I8 10):=rfl
def c6H:rn=.seq (.region 20 #[{dst:=some 74,op:=.move (.tmp 72),type:=3,pos:= "keydir.go:117",after:=#[],guard:=none},{dst:=some 14,op:=.alloc 3,type:=0,pos:= "keydir.go:117",after:=#[],guard:=none},
 {dst:=none,op:=.store 3 (.tmp 14) (.tmp 74),type:=0,pos:= "keydir.go:117",after:=#[{on:=1,ground:=.data},{on:=0,ground:=.data},{on:=0,ground:=.phase},{on:=1,ground:=.phase}],guard:=none}] false)
 (.seq (.region 21 #[{dst:=some 75,op:=.call {callee:=.value (.func 58),args:=#[.tmp 13,.const (.int .i64 1)],argTypes:=#[149,3]},type:=0,pos:= "keydir.go:118",after:=#[],guard:=none}] false)
   (.region 22 #[{dst:=some 76,op:=.makeFunc (.func 59) #[] #[.tmp 13,.tmp 14,.tmp 6,.tmp 4,.tmp 11,.tmp 12],type:=1,pos:= "keydir.go:119",after:=#[],guard:=none},
     {dst:=none,op:=.go {callee:=.value (.tmp 76),args:=#[],argTypes:=#[]},type:=0,pos:= "keydir.go:119",after:=#[{on:=0,ground:=.data}],guard:=none}] false)):=rfl
def QO1(F:tyP)(a:Nat)(d:D)(w:aB):Exit->Act->World->Prop
 | .normal,b,f=>b.defers=[]/\b.tmps.size=118/\b.tmps[0]?=some (l9 a)/\b.tmps[2]?=some (.pointer none)/\b.tmps[3]?=some .nilIface/\∃h g v y,b.tmps[4]?=some (.pointer (some h))/\b.tmps[5]?=some y/\w.heap.size<=h/\
  o6 f h 125 #[.int .u64 g,v]/\o7 f F a d.bF.2.2/\iq F F w f/\
  ((d.bF.1=none/\d.bF.2.1≠.ok/\Held f F (λW=>ErrAt W y d.bF.2.1))\/(∃e c,d.bF.1=some (e,c)/\d.bF.2.1=.ok/\g=(e:Int)/\y=.nilIface/\jd f w v c))
 | _,_,_=>False
noncomputable def N9(n:Nat):Code:=Code.head (I8 n)
def QO0(a:Nat)(w:aB):Exit->Act->World->Prop
 | .normal,b,c=>b.defers=[]/\b.tmps.size=118/\b.tmps[0]?=some (l9 a)/\b.tmps[2]?=some (.pointer none)/\b.tmps[3]?=some .nilIface/\c=w
 | _,_,_=>False
theorem t0{a:Nat}(T:dU)(c:T.size=118)(b:T[0]?=some (l9 a))(w:aB):(N9 0).wp prog (QO0 a w) ⟨T,[]⟩ w:=by rw[O8 (Dc T c) (I7 b)];clear c b;unfold N9 I8;simp[Code.behind,Code.head,f14,zh,up];go_wp2;trivial
theorem t1{a:Nat}(T:dU)(E:T.size=118)(C:T[0]?=some (l9 a))(j:T[2]?=some (.pointer none))(i:T[3]?=some (.nilIface))(F:tyP)(d:D)(w:aB)(h:o7 w F a d)(s:∀x∈d.ids,(d.node x).data.length<=35184372088832):(N9 1).wp prog (QO1 F a d w) ⟨T,[]⟩ w:=by
 rw[O8 (O8 (O8 (Dc T E) (k:=0) (I7 C)) (k:=2) (I7 j)) (k:=3) (I7 i)];generalize (λk=>T.getD k undef)=x;clear E C j i;have L:=ah (b38 F a d w h s);unfold N9 I8;unfold l9 at *;simp only[Code.behind,Code.head,f14,aG,zh,up,reduceIte,Nat.reduceEqDiff];go_wp2_with fail
 refine L.out.mono ?_;rintro e n ⟨g,v,y,rfl,hD,B,c⟩;obtain⟨p,q,o,rfl⟩:∃p q o,v=.slice p q o:=by
  obtain⟨_,_,h,_⟩|⟨_,_,_,_,_,_,h⟩:=c
  exact⟨_,_,_,h⟩
  obtain⟨x,y,h⟩:=ownsRow_form h;exact⟨_,_,_,h⟩
 clear h;go_wp2;have m:Ext n (n.alloc (.cells #[.int .u64 g,.slice p q o] 125)):=(dh n).new _;refine⟨rfl,rfl,rfl,rfl,rfl,n.heap.size,g,.slice p q o,y,rfl,rfl,B.size,jR _ _ rfl,hD.ext m,B.trans (iV m),?_⟩;obtain⟨u,j,i,A,r⟩|⟨t,z,u,j,i,A,r⟩:=c
 exact .inl ⟨u,A,r.ext m⟩
 exact .inr ⟨t,z,u,j,i,A,jH.row r _ λb J=>m.block b (PZ r J)⟩
def b63:(prog.info? 25).map (λi=>(i.zero,i.size,i.bytes))=some (some (.slice none 0 0),1,24):=rfl
theorem sf(z:aX)(n:Nat):madeCells #[z] n=(List.replicate n z).toArray:=by
 apply Array.ext
 simp[madeCells]
 simp[madeCells,Nat.mod_one]
def QO3(a f:Nat)(n:Nat)(w:aB):Exit->Act->World->Prop
 | .normal,b,e=>b.defers=[]/\b.tmps.size=118/\b.tmps[0]?=some (l9 a)/\b.tmps[4]?=some (.pointer (some f))/\Ext w e/\∃c d,b.tmps[6]?=some (.pointer (some c))/\w.heap.size<=c/\w.heap.size<=d/\
  o6 e c 128 #[.slice (some ⟨d,0,none⟩) n n]/\e.heap[d]?=some (.cells (List.replicate n (Value.slice none 0 0)).toArray 25)
 | _,_,_=>False
theorem t3{a:Nat}(T:dU)(j:T.size=118)(i:T[0]?=some (l9 a))(l:T[4]?=some (.pointer (some h)))(g:Int)(v:aX)(b:fC)(w:aB)(n:o6 w h 125 #[.int .u64 g,v])(e:∃B,jd w B v b)(q:b.length<=60):(N9 3).wp prog (QO3 a h b.length w) ⟨T,[]⟩ w:=by
 rw[O8 (O8 (Dc T j) (k:=0)<|I7 i) (k:=4) (I7 l)];generalize (λk=>T.getD k undef)=x;clear j i l;obtain⟨B,e⟩:=e;obtain⟨o,m,rfl⟩:=ownsRow_form e;have p:=run_make_row' (P:=prog) 128 25 (.slice none 0 0) 24 underlying128 b63 rfl .i64 .i64 b.length aj aj w;have r:=(n.cell 1).trans<|rfl;unfold N9 I8 l9 at *;simp only[Code.behind,Code.head,f14,aG,zh,up,reduceIte,Nat.reduceEqDiff];go_wp2;refine⟨rfl,rfl,rfl,rfl,lI ((dh w).new _:Ext w _) ((dh _).new _:Ext _ _),w.heap.size+1,w.heap.size,rfl,aj,ak _,?_,?_⟩
 ·show(World.heap _)[_]?=_;rw[(jr ..).symm];exact jD
 ·rw[sf];show((w.heap.push _).push _)[w.heap.size]?=_;rw[iR aZ,Array.getElem_push_eq]
theorem c0e(a:Nm)(k:Nat):(y7 a k).length=a.length+6:=by simp[y7]
structure zY(w0 w:World)(rb n:Nat)(vs:List Value)(bs:List (List UInt8)):Prop where
 len:vs.length=bs.length
 le:bs.length<=n
 row:w.heap[rb]?=some (.cells (vs++List.replicate (n - bs.length) (Value.slice none 0 0)).toArray 25)
 at_:∀(j:Nat)(u:Value)(b:List UInt8),vs[j]?=some u->bs[j]?=some b->OwnB w w0 u b/\wS w u
theorem zY.keep{w0 w w':aB}{rb n:Nat}{f:jl}{i:fJ}(h:zY w0 w rb n f i)(c:w'.heap[rb]?=w.heap[rb]?)(o:∀b,w0.heap.size<=b->b<w.heap.size->b≠rb->w'.heap[b]?=w.heap[b]?):zY w0 w' rb n f i:=by
 refine⟨h.len,h.le,c.trans h.row,λj u b p l=>?_⟩;let⟨k,q⟩:=h.at_ j u b p l;have a:∀g,u.ownBlock=some g->w'.heap[g]?=w.heap[g]?:=λg m=>by
  have d:=World.ownsRow.lt k g m;by_cases e:g=rb
  rw[e];exact c
  grind
 exact⟨jH.row k _ a,q.keep a⟩
theorem zY.put{w0 w:aB}{rb n:Nat}{o:jl}{a:fJ}{u:aX}{b:dV}(h:zY w0 w rb n o a)(y:OwnB w w0 u b)(x:wS w u)(D:a.length<n)(B:rb<w0):zY w0 (w.setCell ⟨rb,a.length,none⟩ u) rb n (o++[u]) (a++[b]):=by
 have f:∀{v:aX}{l:dV},OwnB w w0 v l->wS w v->OwnB _ _ v l/\wS _ v:=λi q=>by
  have k:=λg z=>((Off.refl rb w).setCell a.length u).block g λe=>by have:=(World.ownsRow.lt i g z).1;omega
  exact⟨jH.row i _ k,q.keep k⟩
 refine⟨by simp[h.len],iw,?_,λj v l c d=>?_⟩
 have e:(w.setCell ⟨rb,a.length,none⟩ u).heap[rb]?=some (.cells ((o++List.replicate (n - a.length) (Value.slice none 0 0)).toArray.setIfInBounds a.length u) 25):=by simp[World.setCell,bg,h.row]
 rw[e];congr 2
 rw[M_];congr 1
 rw[List.set_append_right _ _ (by rw[h.len];omega),h.len,Nat.sub_self];let⟨m,t⟩:∃m,n - a.length=m+1:=⟨n - a.length - 1,aj⟩;rw[t,iM];have:n - (a++[b]).length=m:=iw
 rw[this];rfl
 by_cases r:j<a.length
 rw[bP (by rw[h.len];exact r)] at c;rw[bP r] at d;let⟨i,q⟩:=h.at_ j v l c d;exact f i q
 rw[cZ (by rw[h.len];omega)] at c;rw[cZ aj] at d;rw[h.len] at c;obtain⟨e,-⟩:=aJ.1 c;have p:j - a.length=0:=iL
 rw[p] at c d;simp at c d;subst c d;exact f y x
def QO4(F:tyP)(a g fb rb:Nat)(d:D)(c:fC)(w:aB):Exit->Act->World->Prop
 | .normal,e,f=>e.defers=[]/\e.tmps.size=118/\e.tmps[0]?=some (l9 a)/\e.tmps[4]?=some (.pointer (some g))/\e.tmps[6]?=some (.pointer (some fb))/\(D.dR c d []).2.1=.ok/\o7 f F a (D.dR c d []).2.2/\
  iq (λb=>F b\/b=rb) (λb=>F b\/b=rb) w f/\∃h,zY w f rb c.length h (D.dR c d []).1/\(D.dR c d []).1.length=c.length
 | .ret,e,f=>e.defers=[]/\∃y,e.tmps[2]?=some (.pointer none)/\e.tmps[3]?=some y/\(D.dR c d []).2.1≠.ok/\o7 f F a (D.dR c d []).2.2/\iq (λb=>F b\/b=rb) (λb=>F b\/b=rb) w f/\Held f F (λW=>ErrAt W y (D.dR c d []).2.1)
 | _,_,_=>False
def jp{rb:Nat}{w w':aB}(h:iq F F w w'):iq (λb=>F b\/b=rb) (λb=>F b\/b=rb) w w':=
 ⟨h.os,h.tape,h.output,h.size,λb a c=>h.block b a λh=>c<|.inl h,λb h=>.inl h⟩
theorem t4{a mb fb rb:Nat}(T:dU)(hT:T.size=118)(h0:T[0]?=some (l9 a))(h4:T[4]?=some (.pointer (some mb)))(h6:T[6]?=some (.pointer (some fb)))(F:tyP)(g:Int)(ia:Option Addr)(ic:Nat)(d:D)(f:fC)(w:aB)(h:o7 w F a d)(hds:∀x∈d.ids,(d.node x).data.length<=35184372088832)(hI:zk f)
 (hH:Held w (λb=>F b\/b=rb) (λW=>(o6 W mb 125 #[.int .u64 g,.slice ia f.length ic]/\Ints W (.slice ia f.length ic) f)/\o6 W fb 128 #[.slice (some ⟨rb,0,none⟩) f.length f.length]/\S9 W))
 (Z:w.heap[rb]?=some (.cells (List.replicate f.length (Value.slice none 0 0)).toArray 25))(Wz:¬F rb):(N9 4).wp prog (QO4 F a mb fb rb d f w) ⟨T,[]⟩ w:=by
 rw[O8 (O8 (O8 (Dc T hT) (k:=0) (I7 h0)) (k:=4) (I7 h4)) (k:=6) (I7 h6)];generalize (λk=>T.getD k undef)=x;clear hT h0 h4 h6;have hrl:rb<w.heap.size:=lt_of_block Z;have c0:w.cell? ⟨mb,1,none⟩=some (.slice ia f.length ic):=(hH.get.1.1.cell 1).trans rfl;have HH:=ah hH;have HD:=ah h;have DT:=ah hds;have HI:=ah hI;have HRB:=ah Z;have Ig:=ah h.low;have pO:=hI.1;clear hH h hds hI Z;unfold N9 I8 l9 at *;simp only[Code.behind,Code.head,f14,aG,zh,up,reduceIte,Nat.reduceEqDiff];go_wp2;go_loopw [34] (λi wr=>∃(k:Nat)(K:fJ)(B:D)(vs:jl),i=.int .i64 k/\k<=f.length/\K.length=k/\D.dR f d []=D.dR (f.drop k) B K/\xY d B/\o7 wr F a B/\
  iq (λb=>F b\/b=rb) (λb=>F b\/b=rb) w wr/\zY w wr rb f.length vs K) (λi _=>f.length - (intOf i).toNat)
 case atStart=>exact⟨0,[],d,[],rfl,aj,rfl,rfl,.refl d,HD.out,.refl _ w,rfl,aZ,by simpa using HRB.out,λj u b hu=>by simp at hu⟩
 case round=>
  obtain⟨k,K,B,vs,rfl,hk,J,s,n,wM,yP,q⟩:=hrel;have YN:=HH.out.step yP;obtain⟨⟨hmb,E⟩,hfb,p⟩:=YN.get;by_cases P:k<f.length
  ·obtain⟨xb,rfl,oQ⟩:=Ints.at E (dh wr) P;have hr:=HI.out.2 f[k] (bQ P);obtain⟨y,hy⟩:∃y:Nat,f[k]=(y:Int):=⟨f[k].toNat,aj⟩;have G:f.drop k=f[k]::f.drop (k+1):=gy P;rw[G] at s;rw[hy] at oQ hr s;have hsl:(y7 D6 y).length<=maxLen:=by rw[c0e];unfold D6 maxLen;simp
   have Us:∀z∈B.ids,(B.node z).data.length<=35184372088832:=λz hz=>by rw[n.node];rw[n.ids] at hz;exact DT.out z hz
   have nR:=ah (Qs D6 y wr IQ aj p);have zH:=ah s;have Y:=ah wM;have EH:=ah yP;have uP:=ah q;have DK:=ah n;have N4:=ah Us;have HHR:=ah YN;have zL:=ah J;have HSL:=ah hsl;clear s wM yP q n Us YN J hsl hmb E hfb p G;unfold bJ D6 at nR;go_wp2_with fail
   refine nR.out.mono ?_;rintro e w1 ⟨rfl,I⟩;have Q:=yo F a B (y7 D6 y) w1 (Y.out.ext I) HSL.out N4.out;have V:=D.nY B (y7 D6 y);have A:=ry B (y7 D6 y);obtain⟨⟨b,er,c⟩,U⟩:∃r,B.whole (y7 D6 y)=r:=⟨_,rfl⟩;rw[U] at Q V A;have XM:=ah Q;have Yp:=ah (EH.out.trans (iV (F:=λb=>F b\/b=rb) I));have JA:=ah U;have HWS:=ah V;have lQ:=ah I;clear Q U V I nR;unfold bJ l9 D6 at XM;go_wp2_with fail
   refine XM.out.mono ?_;rintro e L ⟨u,v,rfl,hB,hv,hD2,H,M⟩;have C:zY w L rb f.length vs K:=by
    refine uP.out.keep ?_ λb h1 h2 h3=>?_
    ·exact(H.block rb (by have:=Yp.out.size;omega) Wz).trans (lQ.out.block rb (by have:=EH.out.size;omega))
    ·exact(H.block b (by have:=lQ.out.size;omega) λh=>by have:=Ig.out b h;omega).trans (lQ.out.block b h2)
   have o:=ah (j0 er v 11 L hv.get aj);have NC:=ah ((HHR.out.ext lQ.out).step (jp H):Held L (λb=>F b\/b=rb) _);have S:=ah (Yp.out.trans (jp (rb:=rb) H));have yw:=ah C;have HB:=ah (H6 hB Yp.out.size:OwnB L w u b);have ug:=ah M;have HV:=ah hv;have X:=ah hD2;clear H C hB M hv hD2 XM uP HHR lQ;unfold lK at o;obtain⟨ua,uc,rfl⟩:=ownsRow_form HB.out
   cases er with
   | ok=>
    obtain rfl:v=.nilIface:=HV.out.get;have O:=yw.out.row;have hbk:=zL.out;have qd0:=(NC.out.get.2.1.cell 0).trans (show _=some (Value.slice (some ⟨rb,0,none⟩) f.length f.length) from rfl);have hcell:L.cell? ⟨rb,k,none⟩=some (.slice none 0 0):=by simp only[World.cell?,O,oH,dY,if_false,jh];rw[cZ (by rw[yw.out.len];omega),List.getElem?_replicate_of_lt (by rw[yw.out.len];omega)]
    have qc9:L.frozen? ⟨rb,k,none⟩=false:=by simp[World.frozen?,O]
    have qb9:(k:Int)<(f.length:Int):=aj
    rw[(rfl:decide (Er.code .ok=11)=false)] at o;clear A;go_wp2_with fail
    refine o.out.mono ?_;rintro e w3 ⟨rfl,rfl⟩;go_wp2;go_roundw
    case rel=>
     have N:=yw.out.put HB.out ug.out aj hrl;rw[hbk] at N;have KP:=(Off.refl rb w3).setCell k (.slice ua b.length uc);refine⟨k+1,K++[b],c,vs++[.slice ua b.length uc],iE,aj,by simp[hbk],?_,DK.out.trans HWS.out,?_,?_,N⟩
     ·rw[zH.out];exact EA (by rw[fQ];exact JA.out)
     ·exact X.out.frame (λb hb=>KP.block b λe=>Wz (e▸hb)) (fE KP.size.symm)
     ·exact S.out.trans (iq.off KP (.inr rfl))
    case measure=>simp[intOf];omega
   | num m=>rcases A with h|⟨_,h⟩<;>cases h
   | file m nm=>
    obtain⟨fbx,hvb,nj,BQ⟩:=yn HV.out;subst hvb;by_cases hm:m=11
    ·subst hm;rw[(rfl:decide (Er.code (.file 11 nm)=11)=true)] at o;have l:D.dR f d []=(K,.file 7 (y7 D6 y),c):=by rw[zH.out,cQ (e:=.file 11 nm) (b:=b) (d1:=c) (by rw[fQ];exact JA.out) aZ];simp[Er.code,fQ]
     have zI:=ah (Qs D6 y L IQ aj NC.out.get.2.2);have t:=ah l;clear A l;unfold bJ D6 at zI;go_wp2_with fail
     refine o.out.mono ?_;rintro e w3 ⟨rfl,rfl⟩;go_wp2_with fail
     refine zI.out.mono ?_;rintro e w4 ⟨rfl,lH⟩;have R:=X.out.ext lH;have HD4:=ah R;have QX:=ah (S.out.trans (iV lH));have fj:=ah R.low;clear R lH;go_wp2;have kE:Ext w4 (w4.alloc (.cells #[bJ (y7 D6 y),.int .i64 7] 134)):=(dh w4).new _;refine⟨rfl,_,rfl,rfl,?_,?_,?_,?_⟩
     ·rw[t.out];simp
     ·rw[t.out];exact HD4.out.ext kE
     ·exact QX.out.trans (iV kE)
     ·rw[t.out];exact Jr fj.out
    ·rw[(aK hm:decide (Er.code (.file m nm)=11)=false)] at o;have l:D.dR f d []=(K,.file m nm,c):=by rw[zH.out,cQ (e:=.file m nm) (b:=b) (d1:=c) (by rw[fQ];exact JA.out) aZ];simp[Er.code,hm]
     have t:=ah l;have Nz:=ah (HV.out:Held L F _);clear A l nj BQ HV;go_wp2_with fail
     refine o.out.mono ?_;rintro e w3 ⟨rfl,rfl⟩;go_wp2;refine⟨rfl,_,rfl,rfl,?_,?_,?_,?_⟩
     ·rw[t.out];simp
     ·rw[t.out];exact X.out
     ·exact S.out
     ·rw[t.out];exact Nz.out
  ·obtain rfl:k=f.length:=aj
   have l:D.dR f d []=(K,.ok,B):=by rw[s,List.drop_length];rfl
   have Y:=ah wM;have EH:=ah yP;have uP:=ah q;have t:=ah l;have zL:=ah J;clear wM yP q l s n YN hmb E hfb p J;go_wp2;refine⟨rfl,rfl,rfl,rfl,rfl,?_,?_,EH.out,vs,?_,?_⟩
   ·rw[t.out]
   ·rw[t.out];exact Y.out
   ·rw[t.out];exact uP.out
   ·rw[t.out];exact zL.out
def b36:(prog.info? 154).map (λi=>(i.zero,i.size,i.bytes))=some (some (.agg #[.int .i64 0,.slice none 0 0]),2,32):=aW
def QO5(a mb fb n:Nat)(g:Int)(v:aX)(w:aB):Exit->Act->World->Prop
 | .normal,a',w'=>a'.defers=[]/\a'.tmps.size=118/\a'.tmps[4]?=some (.pointer (some mb))/\a'.tmps[6]?=some (.pointer (some fb))/\Ext w w'/\∃sx sb Cb,a'.tmps[11]?=some (.pointer (some sx))/\w.heap.size<=sx/\w.heap.size<=sb/\w.heap.size<=Cb/\sb≠Cb/\sx≠Cb/\sx≠sb/\
  o6 w' sx 32 #[.pointer (some sb)]/\o6 w' sb 138 #[l9 a,.int .u64 g,v,.slice (some ⟨Cb,0,none⟩) n n,.map none,.int .i64 0]/\w'.heap[Cb]?=some (.cells (madeCells #[.int .i64 0,.slice none 0 0] (n*2)) 154)
 | _,_,_=>False
theorem three(w:aB)(o1 o2 o3:Obj):(((w.alloc o1).alloc o2).alloc o3).drew.heap[w.heap.size]?=some o1/\(((w.alloc o1).alloc o2).alloc o3).drew.heap[w.heap.size+1]?=some o2/\(((w.alloc o1).alloc o2).alloc o3).drew.heap[w.heap.size+1+1]?=some o3/\Ext w (((w.alloc o1).alloc o2).alloc o3).drew:=by
 have h1:(((w.alloc o1).alloc o2).alloc o3).drew.heap=((w.heap.push o1).push o2).push o3:=rfl;refine⟨?_,?_,?_,?_⟩
 ·rw[h1,iR iw,Array.getElem_push_lt aZ,Array.getElem_push_eq]
 ·have e:w.heap.size+1=(w.heap.push o1).size:=(jr ..).symm;rw[h1,e,fF,if_neg (by rw[jr (xs:=w.heap.push o1)];omega)];exact jD
 ·rw[h1];have e:w.heap.size+1+1=((w.heap.push o1).push o2).size:=by rw[jr,jr]
  rw[e];exact jD
 ·exact Below.drew ((((dh w).new o1).new o2).new o3)
theorem t5{a mb fb:Nat}(T:dU)(hT:T.size=118)(h0:T[0]?=some (l9 a))(h4:T[4]?=some (.pointer (some mb)))(h6:T[6]?=some (.pointer (some fb)))(g:Int)(ia:Option Addr)(n ic:Nat)(w:aB)(hb:o6 w mb 125 #[.int .u64 g,.slice ia n ic])(hn:n<=60):(N9 5).wp prog (QO5 a mb fb n g (.slice ia n ic) w) ⟨T,[]⟩ w:=by
 rw[O8 (O8 (O8 (Dc T hT) (k:=0) (I7 h0)) (k:=4) (I7 h4)) (k:=6) (I7 h6)];generalize (λk=>T.getD k undef)=x;clear hT h0 h4 h6;obtain⟨i0,hi,hz0,hz1,hz2⟩:=info_parts b36;have hmk:∀w:aB,(Instr.makeSlice 135 (.int .i64 n) (.int .i64 n)).run prog w=.ok (.slice (some ⟨w,0,none⟩) n n) (w.alloc (.cells (madeCells #[.int .i64 0,.slice none 0 0] (n*2)) 154)):=λw=>by have:=run_make (P:=prog) w 135 154 i0 _ underlying135 hi hz0 .i64 .i64 n n aj aj (by rw[hz2];omega) aj;rw[hz1] at this;exact this
 have d0:w.drew.cell? mb=some (.int .u64 g):=(hb.cell 0).trans rfl;have d1:w.drew.cell? ⟨mb,1,none⟩=some (.slice ia n ic):=(hb.cell 1).trans rfl;have hl:mb<w.heap.size:=hb.lt;have hsz:w.drew.heap.size=w.heap.size:=rfl;have e0:∀o,(w.drew.alloc o).cell? mb=some (.int .u64 g):=λo=>(World.cell?_alloc_lt _ _ _ hl).trans d0;have e1:∀o,(w.drew.alloc o).cell? ⟨mb,1,none⟩=some (.slice ia n ic):=λo=>(World.cell?_alloc_lt _ _ _ hl).trans d1;have c0:w.cell? mb=some (.int .u64 g):=(hb.cell 0).trans rfl;have c1:w.cell? ⟨mb,1,none⟩=some (.slice ia n ic):=(hb.cell 1).trans rfl;have f0:∀o,(w.alloc o).drew.cell? mb=some (.int .u64 g):=λo=>(World.cell?_alloc_lt _ _ _ hl).trans c0;have f1:∀o,(w.alloc o).drew.cell? ⟨mb,1,none⟩=some (.slice ia n ic):=λo=>(World.cell?_alloc_lt _ _ _ hl).trans c1;unfold N9 I8 l9 at *;simp only[Code.behind,Code.head,f14,aG,zh,up,reduceIte,Nat.reduceEqDiff];go_region
 ·exact⟨rfl,rfl,rfl,rfl,(three w _ _ _).2.2.2,w.heap.size+1+1,w.heap.size+1,w.heap.size,rfl,aj,aj,aj,aj,aj,aj,(three w _ _ _).2.2.1,(three w _ _ _).2.1,(three w _ _ _).1⟩
 ·exact⟨rfl,rfl,rfl,rfl,(three w _ _ _).2.2.2,w.heap.size+1,w.heap.size+1+1,w.heap.size,rfl,aj,aj,aj,aj,aj,aj,(three w _ _ _).2.1,(three w _ _ _).2.2.1,(three w _ _ _).1⟩
 ·exact⟨rfl,rfl,rfl,rfl,(three w _ _ _).2.2.2,w.heap.size,w.heap.size+1+1,w.heap.size+1,rfl,aj,aj,aj,aj,aj,aj,(three w _ _ _).1,(three w _ _ _).2.2.1,(three w _ _ _).2.1⟩
def c0f:Extern.find f118=some (Extern.Atomic.loadT (.int .i64)):=rfl
theorem yy(b:Nat)(v:Int)(t:bT)(w:aB)(h:w.heap[b]?=some (.cells #[.int .i64 v] t)):Calls prog 64 #[.pointer (some b)] w λe w'=>e=.returned (.int .i64 v)/\w'=w:=by
 have hc:w.cell? b=some (.int .i64 v):=by simp[World.cell?,h]
 have hcf:=run_call_load (P:=prog) func118 aW aW rfl .i64 c0f hc;go_enter func64,ntmps64
 go_wp2;go_ret;exact⟨rfl,rfl⟩
def QO6(sx sb:Nat)(c0 c1 c2 c3 c4:aX)(v:Int)(al:Nat)(w:aB):Exit->Act->World->Prop
 | .normal,a',w'=>a'.defers=[]/\a'.tmps.size=118/\a'.tmps[11]?=some (.pointer (some sx))/\o6 w' sb 138 #[c0,c1,c2,c3,c4,.int .i64 v]/\Off sb w w'
 | _,_,_=>False
theorem t10{sx sb al:Nat}(T:dU)(hT:T.size=118)(h11:T[11]?=some (.pointer (some sx)))(h12:T[12]?=some (.pointer (some al)))(c0 c1 c2 c3 c4 c5:aX)(v:Int)(t:bT)(w:aB)(hs:o6 w sx 32 #[.pointer (some sb)])(hb:o6 w sb 138 #[c0,c1,c2,c3,c4,c5])(ha:w.heap[al]?=some (.cells #[.int .i64 v] t)):(N9 10).wp prog (QO6 sx sb c0 c1 c2 c3 c4 v al w) ⟨T,[]⟩ w:=by
 rw[O8 (O8 (Dc T hT) (k:=11) (I7 h11)) (k:=12) (I7 h12)];generalize (λk=>T.getD k undef)=x;clear hT h11 h12;have d0:w.drew.cell? sx=some (.pointer (some sb)):=(hs.cell 0).trans rfl;have d1:w.drew.cell? ⟨sb,5,none⟩=some c5:=(hb.cell 5).trans rfl;have f1:w.drew.frozen? ⟨sb,5,none⟩=false:=hb.free 5;have hO:=(Off.refl sb w.drew).setCell 5 (.int .i64 v);have hB:o6 (w.drew.setCell ⟨sb,5,none⟩ (.int .i64 v)) sb 138 #[c0,c1,c2,c3,c4,.int .i64 v]:=(show o6 w.drew sb 138 #[c0,c1,c2,c3,c4,c5] from hb).set 5 (.int .i64 v);have hld:=yy al v t w.drew ha;unfold N9 I8;simp only[Code.behind,Code.head,f14,aG,zh,up,reduceIte,Nat.reduceEqDiff];go_region_with (go_at_call 64;refine(yy al v t _ ?_).mono ?_;exact ha;rintro e w1 ⟨rfl,rfl⟩)
 all_goals
  have UM:=(Off.refl sb w).setCell 5 (.int .i64 v);exact⟨rfl,rfl,rfl,hB,⟨UM.os,UM.tape,UM.output,UM.size,UM.block⟩⟩
abbrev Fd:=Nat×Nat×Rec
def YR(q:Fd):Value:=.agg (O6 q.1 q.2).toArray
abbrev vH(w:aB)(r:Nat)(l:List (Nm×Fd)):Prop:=MapOf prog 9 bJ YR w r l
def QO7(sx sb:Nat)(c0 c1 c2 c3:aX)(v:Int)(w:aB):Exit->Act->World->Prop
 | .normal,a',w'=>a'.defers=[]/\a'.tmps.size=118/\a'.tmps[11]?=some (.pointer (some sx))/\iq (λb=>b=sb) (λb=>b=sb) w w'/\∃r,w.heap.size<=r/\o6 w' sb 138 #[c0,c1,c2,c3,.map (some r),.int .i64 v]/\vH w' r []
 | _,_,_=>False
theorem t11{sx sb:Nat}(T:dU)(hT:T.size=118)(h11:T[11]?=some (.pointer (some sx)))(c0 c1 c2 c3 c4:aX)(v:Int)(w:aB)(hs:o6 w sx 32 #[.pointer (some sb)])(hb:o6 w sb 138 #[c0,c1,c2,c3,c4,.int .i64 v]):(N9 11).wp prog (QO7 sx sb c0 c1 c2 c3 v w) ⟨T,[]⟩ w:=by
 rw[O8 (Dc T hT) (k:=11) (I7 h11)];generalize (λk=>T.getD k undef)=x;clear hT h11;have hmm:∀w:aB,(Instr.makeMap 136 (some (.int .i64 v))).run prog w=.ok (.map (some w.heap.size)) (w.alloc (.map #[] 0)):=λw=>by simp[Instr.makeMap,run_underlying underlying136,asInt,asIntOf,Result.andThen]
 have d0:w.drew.cell? sx=some (.pointer (some sb)):=(hs.cell 0).trans rfl;have d1:w.drew.cell? ⟨sb,5,none⟩=some (.int .i64 v):=(hb.cell 5).trans rfl;have d2:(w.drew.alloc (.map #[] 0)).cell? sx=some (.pointer (some sb)):=(World.cell?_alloc_lt _ _ _ hs.lt).trans d0;have d3:(w.drew.alloc (.map #[] 0)).cell? ⟨sb,4,none⟩=some c4:=(World.cell?_alloc_lt _ _ _ hb.lt).trans ((hb.cell 4).trans rfl);have e0:w.cell? sx=some (.pointer (some sb)):=d0;have e1:w.cell? ⟨sb,5,none⟩=some (.int .i64 v):=d1;have e2:(w.alloc (.map #[] 0)).drew.cell? sx=some (.pointer (some sb)):=d2;have e3:(w.alloc (.map #[] 0)).drew.cell? ⟨sb,4,none⟩=some c4:=d3;have hbn:o6 (w.alloc (.map #[] 0)) sb 138 #[c0,c1,c2,c3,c4,.int .i64 v]:=hb.alloc _;have f1:(w.alloc (.map #[] 0)).drew.frozen? ⟨sb,4,none⟩=false:=hbn.free 4;have f2:(w.drew.alloc (.map #[] 0)).frozen? ⟨sb,4,none⟩=false:=hbn.free 4;unfold N9 I8;simp only[Code.behind,Code.head,f14,aG,zh,up,reduceIte,Nat.reduceEqDiff];go_region
 have hO:=(Off.refl sb (w.alloc (.map #[] 0))).setCell 4 (.map (some w.heap.size));have hC:iq (λb=>b=sb) (λb=>b=sb) w ((w.alloc (.map #[] 0)).setCell ⟨sb,4,none⟩ (.map (some w.heap.size))):=(iV ((dh w).new _)).trans (iq.off hO rfl);have hM:vH ((w.alloc (.map #[] 0)).setCell ⟨sb,4,none⟩ (.map (some w.heap.size))) w []:=(MapOf.made w).off hO (by have:=hb.lt;omega);exact⟨rfl,rfl,rfl,⟨hC.os,hC.tape,hC.output,hC.size,hC.block,hC.grow⟩,w.heap.size,ak _,hbn.set 4 _,hM⟩
def GU(a:Nat)(l:List (Nat×Rec))(m:List (Nm×Fd)):List (Nm×Fd):=l.foldl (λm p=>X4 m p.2.key (a,p)) m
theorem b5q(a:Nat)(l:List (Nat×Rec))(p:Nat×Rec)(m:List (Nm×Fd)):GU a (l++[p]) m=X4 (GU a l m) p.2.key (a,p):=by simp[GU]
def O9(bss:fJ):Nat->List (Nm×Fd)
 | 0=>[]
 | k+1=>GU k (D7 (bss.getD k [])) (O9 bss k)
def Jf(w:aB)(Cb n:Nat)(a:fC)(bss:fJ):Prop:=
 ∀i,i<n->w.cell? ⟨Cb,2*i,none⟩=some (.int .i64 (a.getD i 0))/\∃u,w.cell? ⟨Cb,2*i+1,none⟩=some u/\oP w 160 7 u (D7 (bss.getD i [])).length ((D7 (bss.getD i [])).flatMap (O6 i))
theorem cell_lt{w:aB}{a:Addr}{v:aX}(h:w.cell? a=some v):a.block<w.heap.size:=by
 unfold World.cell? at h
 grind
theorem oP.lt{w:aB}{size:Nat}{v:aX}{n:Nat}{xs:jl}(h:oP w e size v n xs)(a:v.ownBlock=some g):g<w.heap.size:=by
 obtain⟨rfl,_⟩|⟨d,c,b,i,rfl,f,_⟩:=h.2
 cases a
 obtain rfl:d=g:=by simpa [Value.ownBlock] using a
 grind
theorem oP.JV{w:aB}{size:Nat}{v:aX}{n:Nat}{xs:jl}(h:oP w e size v n xs)(b:v.ownBlock=some g){es:Array MapEntry}(j:w.heap[r]?=some (.map es c)):g≠r:=by
 obtain⟨rfl,_⟩|⟨i,f,d,k,rfl,a,_⟩:=h.2
 cases b
 obtain rfl:i=g:=by simpa [Value.ownBlock] using b
 grind
theorem oP.rec{w:aB}{a:Int}{u:aX}{l:List (Nat×Rec)}(h:oP w 160 7 u l.length (l.flatMap (O6 a))){j:Nat}(k:j<l.length):
 ∃g cap,u=.slice (some ⟨g,0,none⟩) l.length cap/\l.length<=cap/\g<w.heap.size/\∀c x,(O6 a l[j])[c]?=some x->w.cell? ⟨g,j*7+c,none⟩=some x:=by
 obtain⟨_,v⟩|⟨g,cap,s,y,rfl,f,i,z,r,m⟩:=h.2
 omega
 refine⟨g,cap,rfl,i,lt_of_block f,λc x d=>?_⟩;have t:c<7:=by have:=(aJ.1 d).1;assumption
 have b:j*7+c<l.length*7:=aj
 have n:(l.flatMap (O6 a))[j*7+c]?=some x:=by
  rw[<-d];clear h m d f r
  induction l generalizing j with
  | nil=>simp at k
  | cons p l q=>
   rw[eY]
   cases j with
   | zero=>
    rw[bP (by simp[O6];omega)]
    simp
   | succ j=>
    rw[cZ (by simp[O6];omega)];have e:(j+1)*7+c - (O6 a p).length=j*7+c:=by simp[O6];omega
    rw[e];simp at k b;rw[q aj fU aj];simp
 rw[<-m,fB,if_pos b,eH] at n;simp[World.cell?,f,n]
def QO8(d r:Nat)(bss:fJ)(n:Nat)(w:aB):Exit->Act->World->Prop
 | .normal,a,c=>a.defers=[]/\a.tmps.size=118/\a.tmps[11]?=some (.pointer (some d))/\iq (λb=>b=r) (λb=>b=r) w c/\vH c r (O9 bss n)
 | _,_,_=>False
def ol{w w':aB}(h:iq F F w w')(o:Obj):iq F F w (w'.alloc o):=h.trans (.ext<|(dh _).new o)
def qi{w w':aB}{n:Nat}{cs:dU}(h:iq F F w w')(a:o6 w n t cs)(b:¬F n):o6 w' n t cs:=(h.block n a.lt b).trans a
theorem b37:∀(n b:Nat)(l:dV),∀p∈L9 n b l,p.2.key.length<=16:=by
 intro n
 induction n with
 | zero=>intro b l p a;cases a
 | succ n e=>
  intro b l p a;unfold L9 at a
  cases c:dec (l.drop b) with
  | none=>simp_all
  | some=>
   rw[c] at a;obtain rfl|a:=bI.1 a
   unfold dec at c;split at c
   rename_i d;injection c with c;subst c;unfold good at d;simp[aI,bZ] at d;rw[dH];omega
   cases c
   exact e _ _ p a
def AE(l:dV):∀p∈D7 l,p.2.key.length<=16:=b37 _ _ _
theorem t12{sx sb Cb n n':Nat}(T:dU)(hT:T.size=118)(h11:T[11]?=some (.pointer (some sx)))(c0 c1 c2 c5:aX)(ids:fC)(bss:fJ)(w:aB)(hs:o6 w sx 32 #[.pointer (some sb)])(hb:o6 w sb 138 #[c0,c1,c2,.slice (some ⟨Cb,0,none⟩) n n',.map (some r),c5])
 (hn:n<=n'/\n<=1000000)(hS:Jf w Cb n ids bss)(hM:vH w r [])(hrs:r≠sx/\r≠sb):(N9 12).wp prog (QO8 sx r bss n w) ⟨T,[]⟩ w:=by
 rw[O8 (Dc T hT) (k:=11) (I7 h11)];generalize (λk=>T.getD k undef)=x;clear hT h11;have d0:w.cell? sx=some (.pointer (some sb)):=(hs.cell 0).trans rfl;have d1:w.cell? ⟨sb,3,none⟩=some (.slice (some ⟨Cb,0,none⟩) n n'):=(hb.cell 3).trans rfl;have HS:=ah hS;have HM:=ah hM;have HSX:=ah hs;have Nk:=ah hb;clear hS hM hs hb;unfold N9 I8;simp only[Code.behind,Code.head,f14,aG,zh,up,reduceIte,Nat.reduceEqDiff];go_wp2;go_loopw [96] (λi wr=>∃k:Nat,i=.int .i64 k/\k<=n/\iq (λb=>b=r) (λb=>b=r) w wr/\vH wr r (O9 bss k)) (λi _=>n - (intOf i).toNat)
 case atStart=>exact⟨0,rfl,aj,.refl _ w,HM.out⟩
 case round=>
  obtain⟨k,rfl,hk,hC,hM⟩:=hrel;by_cases hlt:k<n
  ·obtain⟨es,ck,hes,-⟩:=HM.out;obtain⟨s1,u,s2,hrow⟩:=HS.out k hlt;obtain⟨ua,uc,rfl⟩:=hrow.slice;have Vg:=cell_lt s1;have YO:Cb≠r:=by rintro rfl;simp[World.cell?,hes] at s1
   have s1':wr.cell? ⟨Cb,k*2,none⟩=some (.int .i64 (ids.getD k 0)):=by rw[jy];exact(World.cell?_of_block (hC.block Cb Vg YO)).trans s1
   have s2':wr.cell? ⟨Cb,k*2+1,none⟩=some (.slice ua (D7 (bss.getD k [])).length uc):=by rw[jy];exact(World.cell?_of_block (hC.block Cb Vg YO)).trans s2
   have hki:(k:Int)<(n:Int):=aj
   have oS:(D7 (bss.getD k [])).length<=maxLen:=by
    rcases hrow.2 with⟨_,h⟩|⟨g,cap,cur,fr,hv,_,h1,h2,_⟩
    ·rw[h];exact dD _
    ·exact ay h1 h2
   unfold maxLen at oS;obtain⟨L,hL⟩:∃L,D7 (bss.getD k [])=L:=⟨_,rfl⟩;have hkey:∀p∈L,p.2.key.length<=16:=λp hp=>AE _ p (hL▸hp);have hnext:O9 bss (k+1)=GU k L (O9 bss k):=by rw[<-hL];rfl
   rw[hL] at hrow s2' oS;have HR:=ah hrow;have HC:=ah hC;have XZ:=ah hM;have HES:=ah hes;have HKEY:=ah hkey;have Nu:=ah hnext;clear hrow hC hM s1 s2 hes hkey hnext hL;go_wp2_with fail
   go_loopw [103] (λj wi=>∃m:Nat,j=.int .i64 m/\m<=L.length/\iq (λb=>b=r) (λb=>b=r) w wi/\vH wi r (GU k (L.take m) (O9 bss k))) (λj _=>L.length - (intOf j).toNat)
   case atStart=>exact⟨0,rfl,aj,ol HC.out _,(XZ.out).ext ((dh wr).new _)⟩
   case round=>
    rename World=>wi
    obtain⟨m,rfl,hm,Lh,UO⟩:=hrel;by_cases hml:m<L.length
    ·obtain⟨g,cap,hu,hcap,hgl,hcells⟩:=oP.rec (HR.out.keep λg hg=>Lh.block g (HR.out.lt hg) (HR.out.JV hg HES.out)) hml;injection hu with h1 h2 h3;subst h1;subst h3;have mw:(m:Int)<(L.length:Int):=aj
     have q0:=hcells 0 _ rfl;have q1:=hcells 1 _ rfl;have q2:=hcells 2 _ rfl;have q3:=hcells 3 _ rfl;have q4:=hcells 4 _ rfl;have q5:=hcells 5 _ rfl;have q6:=hcells 6 _ rfl;rw[iP] at q0;have hkl:=HKEY.out _ (bQ hml);have hbx:o6 (wi.alloc (.cells #[.int .i64 k,.int .i64 L[m].1,.int .i64 L[m].2.size,.int .u64 L[m].2.seq,.string ⟨L[m].2.key.toArray⟩,.string ⟨L[m].2.val.toArray⟩,.bool L[m].2.del] 160)) wi 160 #[.int .i64 k,.int .i64 L[m].1,.int .i64 L[m].2.size,.int .u64 L[m].2.seq,.string ⟨L[m].2.key.toArray⟩,.string ⟨L[m].2.val.toArray⟩,.bool L[m].2.del]:=jR _ _ rfl;have hsx:=(qi Lh HSX.out (dI hrs.1)).alloc (.cells #[.int .i64 k,.int .i64 L[m].1,.int .i64 L[m].2.size,.int .u64 L[m].2.seq,.string ⟨L[m].2.key.toArray⟩,.string ⟨L[m].2.val.toArray⟩,.bool L[m].2.del] 160);have hsb:=(qi Lh Nk.out (dI hrs.2)).alloc (.cells #[.int .i64 k,.int .i64 L[m].1,.int .i64 L[m].2.size,.int .u64 L[m].2.seq,.string ⟨L[m].2.key.toArray⟩,.string ⟨L[m].2.val.toArray⟩,.bool L[m].2.del] 160);have a0:(wi.alloc (.cells #[.int .i64 k,.int .i64 L[m].1,.int .i64 L[m].2.size,.int .u64 L[m].2.seq,.string ⟨L[m].2.key.toArray⟩,.string ⟨L[m].2.val.toArray⟩,.bool L[m].2.del] 160)).drew.cell? sx=some (.pointer (some sb)):=(hsx.cell 0).trans rfl;have a1:(wi.alloc (.cells #[.int .i64 k,.int .i64 L[m].1,.int .i64 L[m].2.size,.int .u64 L[m].2.seq,.string ⟨L[m].2.key.toArray⟩,.string ⟨L[m].2.val.toArray⟩,.bool L[m].2.del] 160)).drew.cell? ⟨sb,4,none⟩=some (.map (some r)):=(hsb.cell 4).trans rfl;have b0:(wi.alloc (.cells #[.int .i64 k,.int .i64 L[m].1,.int .i64 L[m].2.size,.int .u64 L[m].2.seq,.string ⟨L[m].2.key.toArray⟩,.string ⟨L[m].2.val.toArray⟩,.bool L[m].2.del] 160)).drew.cell? wi=some (.int .i64 k):=(hbx.cell 0).trans rfl;have b1:(wi.alloc (.cells #[.int .i64 k,.int .i64 L[m].1,.int .i64 L[m].2.size,.int .u64 L[m].2.seq,.string ⟨L[m].2.key.toArray⟩,.string ⟨L[m].2.val.toArray⟩,.bool L[m].2.del] 160)).drew.cell? ⟨wi,1,none⟩=some (.int .i64 L[m].1):=(hbx.cell 1).trans rfl;have b2:(wi.alloc (.cells #[.int .i64 k,.int .i64 L[m].1,.int .i64 L[m].2.size,.int .u64 L[m].2.seq,.string ⟨L[m].2.key.toArray⟩,.string ⟨L[m].2.val.toArray⟩,.bool L[m].2.del] 160)).drew.cell? ⟨wi,2,none⟩=some (.int .i64 L[m].2.size):=(hbx.cell 2).trans rfl;have b3:(wi.alloc (.cells #[.int .i64 k,.int .i64 L[m].1,.int .i64 L[m].2.size,.int .u64 L[m].2.seq,.string ⟨L[m].2.key.toArray⟩,.string ⟨L[m].2.val.toArray⟩,.bool L[m].2.del] 160)).drew.cell? ⟨wi,3,none⟩=some (.int .u64 L[m].2.seq):=(hbx.cell 3).trans rfl;have b4:(wi.alloc (.cells #[.int .i64 k,.int .i64 L[m].1,.int .i64 L[m].2.size,.int .u64 L[m].2.seq,.string ⟨L[m].2.key.toArray⟩,.string ⟨L[m].2.val.toArray⟩,.bool L[m].2.del] 160)).drew.cell? ⟨wi,4,none⟩=some (.string ⟨L[m].2.key.toArray⟩):=(hbx.cell 4).trans rfl;have b5:(wi.alloc (.cells #[.int .i64 k,.int .i64 L[m].1,.int .i64 L[m].2.size,.int .u64 L[m].2.seq,.string ⟨L[m].2.key.toArray⟩,.string ⟨L[m].2.val.toArray⟩,.bool L[m].2.del] 160)).drew.cell? ⟨wi,5,none⟩=some (.string ⟨L[m].2.val.toArray⟩):=(hbx.cell 5).trans rfl;have b6:(wi.alloc (.cells #[.int .i64 k,.int .i64 L[m].1,.int .i64 L[m].2.size,.int .u64 L[m].2.seq,.string ⟨L[m].2.key.toArray⟩,.string ⟨L[m].2.val.toArray⟩,.bool L[m].2.del] 160)).drew.cell? ⟨wi,6,none⟩=some (.bool L[m].2.del):=(hbx.cell 6).trans rfl;have hM2:vH (wi.alloc (.cells #[.int .i64 k,.int .i64 L[m].1,.int .i64 L[m].2.size,.int .u64 L[m].2.seq,.string ⟨L[m].2.key.toArray⟩,.string ⟨L[m].2.val.toArray⟩,.bool L[m].2.del] 160)).drew r (GU k (L.take m) (O9 bss k)):=UO.ext (Below.drew ((dh wi).new _));obtain⟨w3,hrun,hN3,hO3⟩:=hM2.store X0 U0 underlying136 (vI (l:=L[m].2.key) lJ) ((k,L[m]):Fd);have hrun3:(Instr.mapUpdate 136 (.map (some r)) (.string ⟨L[m].2.key.toArray⟩) (.agg #[.int .i64 k,.int .i64 L[m].1,.int .i64 L[m].2.size,.int .u64 L[m].2.seq,.string ⟨L[m].2.key.toArray⟩,.string ⟨L[m].2.val.toArray⟩,.bool L[m].2.del])).run prog (wi.alloc (.cells #[.int .i64 k,.int .i64 L[m].1,.int .i64 L[m].2.size,.int .u64 L[m].2.seq,.string ⟨L[m].2.key.toArray⟩,.string ⟨L[m].2.val.toArray⟩,.bool L[m].2.del] 160)).drew=.ok () w3:=hrun;have hput:GU k (L.take (m+1)) (O9 bss k)=X4 (GU k (L.take m) (O9 bss k)) L[m].2.key (k,L[m]):=by rw[take_snoc L m hml,b5q]
     have hCW:iq (λb=>b=r) (λb=>b=r) w (wi.alloc (.cells #[.int .i64 k,.int .i64 L[m].1,.int .i64 L[m].2.size,.int .u64 L[m].2.seq,.string ⟨L[m].2.key.toArray⟩,.string ⟨L[m].2.val.toArray⟩,.bool L[m].2.del] 160)).drew:=by have:=ol Lh (.cells #[.int .i64 k,.int .i64 L[m].1,.int .i64 L[m].2.size,.int .u64 L[m].2.seq,.string ⟨L[m].2.key.toArray⟩,.string ⟨L[m].2.val.toArray⟩,.bool L[m].2.del] 160);exact⟨this.os,this.tape,this.output,this.size,this.block,this.grow⟩
     have nD:=hCW.trans (iq.off hO3 rfl);have zJ:=ah hN3;have tH:=ah nD;have Lq:=ah hput;clear hN3 hO3 nD hCW hput hM2 hsx hsb hbx hrun Lh UO hcells;go_wp2_with fail
     go_region
     all_goals
      go_wp2;go_roundw
      case rel=>exact⟨m+1,iE,aj,tH.out,by rw[Lq.out];exact zJ.out⟩
      case measure=>simp[intOf];omega
    ·obtain rfl:m=L.length:=aj
     rw[bK,<-Nu.out] at UO;have HCI:=ah Lh;have HMI:=ah UO;clear Lh UO;go_wp2;go_roundw
     case rel=>exact⟨k+1,iE,aj,HCI.out,HMI.out⟩
     case measure=>simp[intOf];omega
  ·obtain rfl:k=n:=aj
   have HC:=ah hC;have XZ:=ah hM;clear hC hM;go_wp2;exact⟨rfl,rfl,rfl,HC.out,XZ.out⟩
def QO9(b:Nat)(w:aB):Exit->Act->World->Prop
 | .ret,a,c=>a.defers=[]/\a.tmps[2]?=some (.pointer (some b))/\a.tmps[3]?=some .nilIface/\c=w
 | _,_,_=>False
theorem t13{b:Nat}(T:dU)(d:T.size=118)(a:T[11]?=some (.pointer (some b)))(w:aB)(e:o6 w b 32 #[.pointer (some c)]):(I8 13).wp prog (QO9 c w) ⟨T,[]⟩ w:=by rw[O8 (Dc T d) (I7 a)];clear d a;have g:=(e.cell 0).trans rfl;unfold I8;simp[Code.behind,f14,zh,up];go_wp2;trivial
noncomputable def vg(n:Nat):Code:=Code.behind n (f59.body.getD .skip)
noncomputable def kP:Code:=Code.head (vg 1)
def vW(V0 V3 V4 V5:aX)(ib fb:Nat):Array Value:=#[V0,.pointer (some ib),.pointer (some fb),V3,V4,V5,undef,undef,undef,undef,undef,undef,undef,undef,undef,undef,undef,undef,undef,undef,undef,undef,undef,undef,undef,undef,undef,undef,undef]
def QW1(l:dV)(i ib:Nat)(w:aB):Exit->Act->World->Prop
 | .normal,a',w'=>a'.defers=[]/\a'.tmps.size=29/\a'.tmps[1]?=some (.pointer (some ib))/\∃u,a'.tmps[6]?=some u/\w'.ownsRow w 160 7 u (D7 l).length ((D7 l).flatMap (O6 i))/\Ext w w'
 | _,_,_=>False
theorem c9B(V0 V3 V4 V5:aX)(ib fb rb i n cap:Nat)(v:aX)(l:dV)(w:aB)(hib:w.cell? ib=some (.int .i64 i))(hfb:w.cell? fb=some (.slice (some ⟨rb,0,none⟩) n cap))(hi:i<n)(hcap:n<=cap)(hn:n<2147483648)
 (hc:w.cell? ⟨rb,i,none⟩=some v)(h:Bytes w v l)(hl:l.length<=1099511627776):
 kP.wp prog (QW1 l i ib w) ⟨vW V0 V3 V4 V5 ib fb,[]⟩ w:=by
 unfold kP vg vW;simp only[Code.behind,Code.head,f59,aG];have hlt:(i:Int)<(n:Int):=aj
 have h0:(0:Int)<=(i:Int):=aj
 have d1:w.drew.cell? ib=some (.int .i64 i):=hib;have d2:w.drew.cell? fb=some (.slice (some ⟨rb,0,none⟩) n cap):=hfb;have d3:w.drew.cell? ⟨rb,i,none⟩=some v:=hc;have hB:Bytes w.drew v l:=h;have hsz:w.drew.heap.size=w.heap.size:=rfl;go_region_with (go_at_call 61;refine(c3J i v l _ ?_ hl).mono ?_;exact hB;rintro e w1 ⟨u,rfl,hown,hE⟩)
 all_goals exact⟨rfl,rfl,rfl,_,rfl,hown,lI (Below.drew (dh w)) hE⟩
section
open Go.ConcN (WgLive)
open Go.Mc (Pz lZ R0 D0 W0 Ev0 AtKdS AtGoS AtKd AtW1 Spawns Fin oO nX Works)
variable[Go.ConcR.Payload]{Z:Pz}{qC:World}{T0:Array Value}{V4 V6 lF:Value}{K:List Item}{cs:List Frame}
def kb(k:Nat):Bool:=![12,13,14,70,71,72,73,74,75,76,77,78].contains k
theorem WX{T T0:dU}(h:∀k,kb k=true->T[k]?=T0[k]?)(j:Nat)(c:kb j=false)(v:aX):∀k,kb k=true->(T.setIfInBounds j v)[k]?=T0[k]?:=λk a=>by grind
structure Lay(Z:Pz)(T0:Array Value)(V4 V6 lF:Value)(T:Array Value)(j:Nat):Prop where
 size:T.size=118
 t4:T[4]?=some V4
 t6:T[6]?=some V6
 t11:T[11]?=some lF
 t12:T[12]?=some (.pointer (some ⟨Z.Al,0,none⟩))
 t13:T[13]?=some (.pointer (some ⟨Z.Wg,0,none⟩))
 t71:T[71]?=some (.int .i64 Z.n)
 t72:T[72]?=some (.int .i64 j)
 keep:∀k,kb k=true->T[k]?=T0[k]?
noncomputable def c8q(T:Array Value)(K:List Item):Frame:=(base 14).at ⟨T,[]⟩ (.inRegion Zo [0]::.code (I8 10)::K)
noncomputable def joined(T:Array Value)(K:List Item):Frame:=(base 14).at (Act.put ⟨T,[]⟩ (some 78) (.tuple #[])) (.inRegion Zo []::.code (I8 10)::K)
def Jc(Z:Pz)(qC:aB)(T0:dU)(V4 V6 lF:aX)(K:List Item)(cs:iZ)(g:iY)(w:aB):Prop:=∃T,Lay Z T0 V4 V6 lF T Z.n/\Wj Z link qC (c8q T K) cs g w
def Zm(Z:Pz)(T0:dU)(V4 V6 lF:aX)(K:List Item)(cs:iZ)(g:iY)(w:aB):Prop:=∃T,Lay Z T0 V4 V6 lF T Z.n/\Wp prog (G (joined T K) cs) g w
theorem c0O(g:iY)(w:aB)(h:Jc Z qC T0 V4 V6 lF K cs g w):g.status=.running:=by obtain⟨T,_,a,rfl,_⟩:=h;rfl
theorem c0P(e:lZ Z)(d:Z.P=prog)(a:Z.ty=149){x:Option Nat}(g:iY)(w:aB)(h:Jc Z qC T0 V4 V6 lF K cs g w):∃T,W0 Z (AtW1 Z (Zm Z T0 V4 V6 lF K cs) (Jc Z qC T0 V4 V6 lF K cs)) T x g w:=by let⟨T,b,h⟩:=h;refine vw (λy g w=>xe (λg w c=>⟨T,b,?_⟩) λg w f=>⟨T,b,f⟩) (b8h e (d▸wgLib) a g w h);rw[d] at c;exact c
def PE(Z:Pz)(V4 V6 lF:aX)(b:Nat):Array Value:=#[.pointer (some ⟨Z.Wg,0,none⟩),.pointer (some b),V6,V4,lF,.pointer (some ⟨Z.Al,0,none⟩)]
def Zl(Z:Pz)(V4 V6 lF:aX)(b:Nat):Deferred:={target:=.fn (.func 59) (PE Z V4 V6 lF b),args:=#[]}
variable{ρ:Operand->Value}{n j:Nat}
theorem Lay.set{T:dU}(h:Lay Z T0 V4 V6 lF T j)(k:Nat)(v:aX)(a:([4,6,11,12,13,71,72].contains k||kb k)=false):Lay Z T0 V4 V6 lF (T.setIfInBounds k v) j:=by rw[Bool.or_eq_false_iff] at a;let⟨a,c⟩:=a;simp at a;let⟨g,n,m,p,l,f,o⟩:=a;refine⟨by simp[h.size],D8 h.t4 g,D8 h.t6 n,D8 h.t11 m,D8 h.t12 p,D8 h.t13 l,D8 h.t71 f,D8 h.t72 o,λi d=>?_⟩;rw[bf (λe=>fU)];exact h.keep i d
theorem Lay.next{T:dU}(h:Lay Z T0 V4 V6 lF T j)(c:Nat):Lay Z T0 V4 V6 lF (T.setIfInBounds 72 (.int .i64 c)) c:=by refine⟨by simp[h.size],D8 h.t4 dA,D8 h.t6 dA,D8 h.t11 dA,D8 h.t12 dA,D8 h.t13 dA,D8 h.t71 dA,zx (by rw[h.size];decide),λi b=>?_⟩;rw[bf (λe=>by subst e;trivial)];exact h.keep i b
section
variable{a b:Operand}(u v:Int)(ha:ρ a=.int .i64 u)(hb:ρ b=.int .i64 v)
include ha hb
theorem c6I(w:aB)(d:Option Nat)(e:String)(f:Array Edge)(t:bT):(execOp ρ {dst:=d,op:=.binOp .lss 3 a b 3,type:=t,pos:=e,after:=f,guard:=none}).run prog w=.ok (.value (.bool (decide (u<v)))) w:=by simp[go_sem,ha,hb]
end
theorem c8r{a b:Operand}{u v:Int}(f:ρ a=.int .i64 u)(h:ρ b=.int .i64 v)(w:aB)(d:Option Nat)(e:String)(g:Array Edge)(t:bT):(execOp ρ {dst:=d,op:=.binOp .lss 3 a b 3,type:=t,pos:=e,after:=g,guard:=none}).events prog w #[]=#[]:=by simp[go_sem,f,h]
theorem c6J{T:dU}{u:Nat}(h:T[72]?=some (.int .i64 u))(f:u<4611686018427387904)(w:aB):(execOp (Act.eval ⟨T,[]⟩) {dst:=some 77,op:=.binOp .add 3 (.tmp 72) (.const (.int .i64 1)) 3,type:=3,pos:= "keydir.go:117",after:=#[],guard:=none}).run prog w=.ok (.value (.int .i64 ((u+1:Nat):Int))) w/\
 (execOp (Act.eval ⟨T,[]⟩) {dst:=some 77,op:=.binOp .add 3 (.tmp 72) (.const (.int .i64 1)) 3,type:=3,pos:= "keydir.go:117",after:=#[],guard:=none}).events prog w #[]=#[]:=by
 have b:=J5 (ds:=[]) h;have c:Act.eval ⟨T,[]⟩ (.const (.int .i64 1))=.int _ 1:=rfl;have d:IntKind.i64.wrap (u+1)=u+1:=by rw[IntKind.wrap_i64];omega
 generalize Act.eval _ = ρ at b c⊢;constructor
 simp[go_sem,b,c,d]
 simp[go_sem,b,c]
section
variable{T:Array Value}{w:World}{x:Option Nat}{Stop:Option Nat->Goroutine->World->Prop}{k:List Item}
theorem pM(c:Z.P=prog)(a:Lay Z T0 V4 V6 lF T j)
 (h:∃b,W0 Z Stop b x (G ((base 14).at ⟨T.setIfInBounds 73 (.bool (decide ((j:Int)<Z.n))),[]⟩ (.code (if decide ((j:Int)<Z.n) then .skip else .exit 2)::.code (.seq (.block 3 rn) (.region 23 #[{dst:=some 77,op:=.binOp .add 3 (.tmp 72) (.const (.int .i64 1)) 3,type:=3,pos:= "keydir.go:117",after:=#[],guard:=none},{dst:=some 72,op:=.move (.tmp 77),type:=3,pos:= "keydir.go:117",after:=#[{on:=0,ground:=.data}],guard:=none}] false))::k)) cs) w):
 ∃b,W0 Z Stop b x (G ((base 14).at ⟨T,[]⟩ (.code Jv::k)) cs) w:=by
 refine J8 rfl (λ_=>stepG_seq) (J8 rfl (λ_=>stepG_region) ?_);refine MC rfl rfl dA (λw=>c▸c6I j _ (J5 a.t72) (J5 a.t71) w _ _ _ _) (λw=>c▸c8r (J5 a.t72) (J5 a.t71) w _ _ _ _) ?_;refine J8 rfl (λ_=>stepG_region_end) (J8 rfl (λ_=>stepG_seq) (J8 rfl (λ_=>stepG_cond (J5 (zx (by rw[a.size];decide)))) h))
end
theorem c0R(d:Z.P=prog)(e:Z.ty=149){T:dU}{w:aB}(f:Lay Z T0 V4 V6 lF T Z.n)(l:Kn Z none qC w):
 ∃m,W0 Z (AtKd Z (Jc Z qC T0 V4 V6 lF K cs)) m none (G ((base 14).at ⟨T,[]⟩ (.code Jv::.inLoop Jv::.inBlock 2::.code (I8 9)::K)) cs) w:=by
 refine pM d f ?_;have i:decide ((Z.n:Int)<Z.n)=false:=aZ
 rw[i];have a:=f.set 73 (.bool false) rfl;refine J8 rfl (λ_=>stepG_exit rfl) ?_;rw[c8p];refine J8 rfl (λ_=>stepG_seq) (J8 rfl (λ_=>stepG_region) ?_);have c:List.range Zo.size=[0]:=rfl
 rw[c];refine lL rfl rfl dA rfl (by rw[d];exact func63) rfl rfl ?_;have j:#[.tmp 13].map (Act.eval ⟨T.setIfInBounds 73 (.bool false),[]⟩)=#[.pointer (some ⟨Z.Wg,0,none⟩)]:=by simp[fM,bD,dS];rw[J5 a.t13]
 rw[j];exact vw (λy g w=>xd λg w h=>⟨_,a,h⟩) ((λb=>b8i (L:=link) (d▸wgLib) e l) _)
def gx:(prog.funcs[(base 14).fn]?).any (·.norace)=false:=aW
section
variable{T:Array Value}{w:World}
abbrev pQ:Oper:={dst:=some 14,op:=.alloc 3,type:=0,pos:= "keydir.go:117",after:=#[],guard:=none}
theorem c6K(ρ:Operand->Value)(w:aB):(execOp ρ {dst:=some 14,op:=.alloc 3,type:=0,pos:= "keydir.go:117",after:=#[],guard:=none}).run prog w=.ok (.value (.pointer (some w))) (w.alloc (.cells #[.int .i64 0] 3))/\
 (execOp ρ {dst:=some 14,op:=.alloc 3,type:=0,pos:= "keydir.go:117",after:=#[],guard:=none}).events prog w #[]=#[]:=by
 constructor<;>simp[go_sem]
abbrev VI:Oper:={dst:=none,op:=.store 3 (.tmp 14) (.tmp 74),type:=0,pos:= "keydir.go:117",after:=#[{on:=1,ground:=.data},{on:=0,ground:=.data},{on:=0,ground:=.phase},{on:=1,ground:=.phase}],guard:=none}
theorem c4c{ρ:Operand->Value}{b:Nat}{v:Int}(d:ρ (.tmp 14)=.pointer (some b))(g:ρ (.tmp 74)=.int .i64 v){w:aB}(f:w.heap[b]?=some (.cells #[.int .i64 0] 3)):
 (execOp ρ VI).run prog w=.ok .skip (w.setCell b (.int .i64 v))/\(execOp ρ VI).events prog w #[]=#[⟨.cell b,true,false⟩]:=by
 have c:w.frozen? b=false:=by simp[World.frozen?,f]
 have e:w.cell? b=some (.int .i64 0):=by simp[World.cell?,f]
 constructor
 unfold execOp;simp[d,g];simp[go_sem,e,c]
 unfold execOp;simp[d,g];simp[go_sem,e,c]
theorem heap_set(w:aB)(b:Nat)(v u:aX)(t:bT)(h:w.heap[b]?=some (.cells #[u] t)):(w.setCell b v).heap[b]?=some (.cells #[v] t):=by simp[World.setCell,bg,h]
end
abbrev de:Oper:={dst:=some 74,op:=.move (.tmp 72),type:=3,pos:= "keydir.go:117",after:=#[],guard:=none}
abbrev VH:Oper:={dst:=some 76,op:=.makeFunc (.func 59) #[] #[.tmp 13,.tmp 14,.tmp 6,.tmp 4,.tmp 11,.tmp 12],type:=1,pos:= "keydir.go:119",after:=#[],guard:=none}
abbrev VG:Oper:={dst:=none,op:=.go {callee:=.value (.tmp 76),args:=#[],argTypes:=#[]},type:=0,pos:= "keydir.go:119",after:=#[{on:=0,ground:=.data}],guard:=none}
theorem run_go{ρ:Operand->Value}{f:Fn}{c:dU}(h:ρ (.tmp 76)=.func f #[] c)(w:aB):(execOp ρ VG).run prog w=.ok (.spawn {target:=.fn f c,args:=#[]}) w/\(execOp ρ VG).events prog w #[]=#[]:=by constructor<;>(simp[go_sem];simp_all)
abbrev c9P:Array Oper:=#[{dst:=some 77,op:=.binOp .add 3 (.tmp 72) (.const (.int .i64 1)) 3,type:=3,pos:= "keydir.go:117",after:=#[],guard:=none},{dst:=some 72,op:=.move (.tmp 77),type:=3,pos:= "keydir.go:117",after:=#[{on:=0,ground:=.data}],guard:=none}]
def Qd(w:aB)(o:Obj):(w.alloc o).heap.size=w+1:=jr ..
theorem PY(w:aB)(o:Obj){b:Nat}(h:b<w):(w.alloc o).heap[b]?=w.heap[b]?:=by show(w.heap.push o)[b]?=_;rw[iR h,<-dN]
def rT(w:aB)(o:Obj):(w.alloc o).heap[w.heap.size]?=some o:=jD
theorem PH{AnchW:Goroutine->World->Prop}{g g':iY}{w:aB}(h:∀Stop,(∃T,W0 Z Stop T none g' w)->∃T,W0 Z Stop T none g w)(k:Spawns Z (Fin Z AnchW) r none g' w):Spawns Z (Fin Z AnchW) r none g w:=by
 cases r with
 | zero=>exact⟨rfl,h _ k.2⟩
 | succ=>exact h _ k
theorem c0S(N:lZ Z)(s:Z.P=prog)(hty:Z.ty=149)(hn:Z.n<2147483648)(hL:Z.L0<=qC)
 (vV:∀i b w,i<Z.n->Z.L0<=b->R0 Z none qC w->w.heap[b]?=some (.cells #[.int .i64 i] 3)->oO Z w->nX Z w->WgLive Z.ty Z.Wg w->Works Z i b (born prog (Zl Z V4 V6 lF b)) w)(r:Nat):
 ∀j T w,j+r=Z.n->Lay Z T0 V4 V6 lF T j->Kn Z none qC w->Spawns Z (Fin Z (Jc Z qC T0 V4 V6 lF K cs)) r none (G ((base 14).at ⟨T,[]⟩ (.code Jv::.inLoop Jv::.inBlock 2::.code (I8 9)::K)) cs) w:=by
 induction r with
 | zero=>
  intro j T w hj hT t;obtain rfl:j=Z.n:=aj
  exact⟨rfl,c0R s hty hT t⟩
 | succ r ih=>
  intro j T w hj hT t;have ej:Z.n - (r+1)=j:=aj
  show ∃Tr,W0 Z _ Tr none _ w;rw[ej];refine pM s hT ?_;have q1:decide ((j:Int)<(Z.n:Int))=true:=iw
  rw[q1];have C:=hT.set 73 (.bool true) dA;generalize T.setIfInBounds 73 (.bool true)=T1 at C⊢;rw[if_pos rfl,congrArg (λc=>Item.code (.seq (.block 3 c) _)) c6H];refine J8 rfl (λ_=>stepG_skip) (J8 rfl (λ_=>stepG_seq) (J8 rfl (λ_=>stepG_block) (J8 rfl (λ_=>stepG_seq) (J8 rfl (λ_=>stepG_region) ?_))));refine MC (i:=0) (rest:=[1,2]) (o:=de) rfl rfl dA (v:=.int .i64 j) (λw=>by rw[<-J5 (ds:=[]) C.t72];rfl) (λw=>rfl) ?_;have S:=C.set 74 (.int .i64 j) dA;have t74:(T1.setIfInBounds 74 (.int .i64 j))[74]?=some (.int .i64 j):=zx (by rw[C.size];decide);have q:Act.put ⟨T1,[]⟩ (some 74) (.int .i64 j)=⟨T1.setIfInBounds 74 (.int .i64 j),[]⟩:=rfl;rw[show de.dst=some 74 from rfl,q];clear q;generalize T1.setIfInBounds 74 (.int .i64 j)=L at S t74⊢;refine fi (i:=1) (rest:=[2]) (o:=pQ) rfl rfl dA λd E=>?_;replace t:=t.rely E;clear E;rw[s];have U:=c6K (Act.eval ⟨L,[]⟩) d;have R:Z.L0<=d.heap.size:=ay hL t.1.size;refine⟨_,_,some d.heap.size,U.1,⟨by rw[Qd];omega,rfl,rfl,rfl,λb R _=>PY _ _ R,.inr (.inr ⟨_,rfl,ak _,by rw[Qd];omega⟩),by rw[show listed prog (base 14).fn ⟨L,[]⟩ pQ d=#[] by unfold listed;rw[U.2];exact seen_none _ _];simp⟩,?_⟩;clear U;have p:=rT d (.cells #[.int .i64 0] 3);have y:R0 Z none qC (d.alloc (.cells #[.int .i64 0] 3))/\WgLive Z.ty Z.Wg (d.alloc (.cells #[.int .i64 0] 3)):=have hl:WgLive Z.ty Z.Wg (d.alloc (.cells #[.int .i64 0] 3)):=let ⟨st,sm,h⟩:=t.2;⟨st,sm,(PY _ _ (aF N.W0 R)).trans h⟩;⟨⟨by rw[Qd];have:=t.1.size;omega,λm f=>(PY _ _ (aF (N.jQ m f).1 R)).trans (t.1.jQ m f),λ_ h=>(by cases h),λ_=>hl,λm f=>(PY _ _ (aF (N.sh m f).1 R)).trans (t.1.AZ m f)⟩,hl⟩
  have z:d.heap.size<(d.alloc (.cells #[.int .i64 0] 3)).heap.size:=by rw[Qd];omega
  generalize d.alloc (.cells #[.int .i64 0] 3)=w₂ at p y z⊢;generalize d.heap.size=b at R p z⊢;clear t;have ot:=S.set 14 (.pointer (some b)) dA;have Rj:(L.setIfInBounds 14 (.pointer (some b)))[74]?=some (.int .i64 j):=D8 t74 dA;have Q:(L.setIfInBounds 14 (.pointer (some b)))[14]?=some (.pointer (some b)):=zx (by rw[S.size];decide);have q:Act.put ⟨L,[]⟩ pQ.dst (.pointer (some b))=⟨L.setIfInBounds 14 (.pointer (some b)),[]⟩:=rfl;rw[q];clear q;generalize L.setIfInBounds 14 (.pointer (some b))=I at ot Rj Q⊢;refine c67 (i:=2) (rest:=[]) (o:=VI) rfl rfl dA λa g=>?_;rw[s];have M:=(g.cur b rfl).trans p;obtain⟨X,hr2⟩:=c4c (J5 (ds:=[]) Q) (J5 (ds:=[]) Rj) M;have V:b≠Z.Wg:=by have:=N.W0;omega
  have A:R0 Z none qC a:=R0.trans Z y.1 ⟨g.size,g.jQ,λ_ h=>(by cases h),g.live,g.AZ⟩;have B:WgLive Z.ty Z.Wg a:=g.live y.2;have o:∀m,m≠b->(a.setCell b (.int .i64 j)).heap[m]?=a.heap[m]?:=λm f=>Below.heap_setCell _ _ _ _ f;have x:(a.setCell b (.int .i64 j)).heap.size=a.heap.size:=(aside_setCell a b _).size;refine⟨_,some b,X,⟨fE x.symm,rfl,rfl,rfl,λm _ f=>o m λe=>f (e▸rfl),.inl rfl,?_⟩,?_⟩
  ·rw[show listed prog (base 14).fn ⟨I,[]⟩ VI a=#[⟨.cell b,true,false⟩] by unfold listed;rw[hr2,seen_eq gx aZ]];intro e he;rw[uU] at he;subst he;exact⟨by rw[x];have:=g.size;exact aF z this,rfl,.inr rfl⟩
  have u:WgLive Z.ty Z.Wg _:=let ⟨st,sm,h⟩:=B;⟨st,sm,(o _ (dI V)).trans h⟩;have OZ:R0 Z none qC _:=⟨by rw[x];exact A.size,λm f=>(o m (by have:=(N.jQ m f).1;omega)).trans (A.jQ m f),λ_ h=>(by cases h),λ_=>u,λm f=>(o m (by have:=(N.sh m f).1;omega)).trans (A.AZ m f)⟩;have O:(a.setCell b (.int .i64 j)).heap[b]?=some (.cells #[.int .i64 j] 3):=heap_set a b _ _ 3 M;generalize a.setCell b (.int .i64 j)=H at u OZ O⊢;clear x o B A X hr2 M g y p z;have q:Act.put ⟨I,[]⟩ VI.dst undef=⟨I,[]⟩:=rfl;rw[q];clear q;refine J8 rfl (λ_=>stepG_region_end) (J8 rfl (λ_=>stepG_seq) (J8 rfl (λ_=>stepG_region) ?_));refine lL (i:=0) (rest:=[]) rfl rfl dA rfl (by rw[s];exact func58) aW rfl ?_;have ea:#[Operand.tmp 13,.const (.int .i64 1)].map (Act.eval ⟨I,[]⟩)=#[.pointer (some ⟨Z.Wg,0,none⟩),.int .i64 1]:=by simp only[fM,bD,dS];rw[J5 ot.t13];rfl
  rw[ea];refine Dl (L:=link) (j:=j) (w0:=H) N (s▸wgLib) hty (λe=>V (aO e)) (λF k=>?_) H ⟨R0.refl Z _ _,u⟩;have KX:R0 Z none qC F:=R0.trans Z OZ ⟨k.1.size,k.1.jQ,λ_ h=>(by cases h),k.1.live,k.1.AZ⟩;have hc5:=(k.1.cur b rfl).trans O;have hl5:=k.2;clear k OZ O u;have q:Act.put ⟨I,[]⟩ ((#[({dst:=some 75,op:=.call {callee:=.value (.func 58),args:=#[.tmp 13,.const (.int .i64 1)],argTypes:=#[149,3]},type:=0,pos:= "keydir.go:118",after:=#[],guard:=none}:Oper)][0]?).bind (·.dst)) (.tuple #[])=⟨I.setIfInBounds 75 (.tuple #[]),[]⟩:=rfl;rw[q];clear q;have J:=ot.set 75 (.tuple #[]) dA;have Rk:(I.setIfInBounds 75 (.tuple #[]))[14]?=some (.pointer _):=D8 Q dA;generalize I.setIfInBounds 75 (.tuple #[])=P at J Rk⊢;refine J8 rfl (λ_=>stepG_region_end) (J8 rfl (λ_=>stepG_region) ?_);have hv:∀w,(execOp (Act.eval ⟨P,[]⟩) VH).run prog w=.ok (.value (.func (.func 59) #[] (PE Z V4 V6 lF b))) w/\(execOp (Act.eval ⟨P,[]⟩) VH).events prog w #[]=#[]:=λw=>by
   have e1:#[Operand.tmp 13,.tmp 14,.tmp 6,.tmp 4,.tmp 11,.tmp 12].map (Act.eval ⟨P,[]⟩)=PE Z V4 V6 lF b:=by simp only[fM,bD,dS];rw[J5 J.t13,J5 Rk,J5 J.t6,J5 J.t4,J5 J.t11,J5 J.t12];rfl
   rw[<-e1];constructor<;>simp[go_sem]
  refine MC (i:=0) (o:=VH) rfl rfl dA (λw=>s▸(hv w).1) (λw=>s▸(hv w).2) ?_;have q:Act.put ⟨P,[]⟩ VH.dst (.func (.func 59) #[] (PE Z V4 V6 lF b))=⟨P.setIfInBounds 76 _,[]⟩:=rfl;rw[q];clear q;have YH:=J.set 76 (.func (.func 59) #[] (PE Z V4 V6 lF b)) dA;have Y:(P.setIfInBounds 76 (.func (.func 59) #[] (PE Z V4 V6 lF b)))[76]?=some _:=zx (by rw[J.size];decide);generalize P.setIfInBounds 76 _=W at YH Y⊢;refine c68 λn l=>?_;have hr:=run_go (J5 (ds:=[]) Y) n;have UZ:=R0.trans Z KX ⟨l.size,l.jQ,λ_ h=>(by cases h),l.live,l.AZ⟩;have hst:=stepG_spawn (main:=true) (b:=base 14) (k:=.inBlock 3::.code (.region 23 c9P false)::.inLoop Jv::.inBlock 2::.code (I8 9)::K) (cs:=cs) (ops:=#[VH,VG]) (i:=1) (rest:=[]) (o:=VG) rfl rfl dA hr.1 rfl;rw[show listed prog (base 14).fn ⟨W,[]⟩ VG n=#[] by unfold listed;rw[hr.2];exact seen_none _ _] at hst;refine⟨rfl,b,_,_,rfl,(by rw[s];exact hst),rfl,λhal hcb B=>vV j b n aj R UZ ((l.cur b rfl).trans hc5) hal hcb B,?_⟩;have hi:=c6J (T:=W) YH.t72 aj;have t77:(W.setIfInBounds 77 (.int .i64 ((j+1:Nat):Int)))[77]?=some _:=zx (by rw[YH.size];decide);refine PH (g':=G ((base 14).at ⟨(W.setIfInBounds 77 (.int .i64 ((j+1:Nat):Int))).setIfInBounds 72 _,[]⟩ _) cs) (λStop hk=>?_) (ih (j+1) _ n aj ((YH.set 77 _ dA).next (j+1)) ⟨UZ,l.live hl5⟩);refine J8 rfl (λ_=>stepG_region_end) (J8 rfl (λ_=>stepG_inBlock) (J8 rfl (λ_=>stepG_region) ?_));refine MC rfl rfl dA (λw=>s▸(hi w).1) (λw=>s▸(hi w).2) ?_;refine MC (v:=.int .i64 ((j+1:Nat):Int)) rfl rfl dA (λw=>?_) (λw=>rfl) ?_
  ·exact congrArg (λv=>(Result.ok _ w)) (J5 t77)
  ·exact J8 rfl (λ_=>stepG_region_end) (J8 rfl (λ_=>stepG_inLoop) hk)
end
end Go.Proofs.YtgpbhjjajpbeeaaGreatDoor
