/- A part of what the last file proves. -/
import Derived.Test.YtgpbhjjajpbeeaaGreatDoorO14
import Derived.Deep.OwnRows
import Derived.Conc.AtomicLaws
set_option linter.all false
set_option maxRecDepth 100000
set_option maxHeartbeats 6400000
open Go.Proofs.Tryz
namespace Go.Proofs.YtgpbhjjajpbeeaaGreatDoor
section
open Go.RowKit Go.Zn Go.Extern
def fs:Nat:=13968099261131126359713065202646624295774213882799324763965390427744041519001600
def zb:ZB:={F:=λf=>fs.testBit f,T:=λ_=>true,N:=λn=>["Comparable","AssignableTo","Is","Kind","Elem","As","Unwrap","Implements"].contains n,G:=7}
def zone:Zone:=zb.zone
noncomputable def TB(f:Nat):Bool:=!fs.testBit f||(match prog.funcs[f]? with
 | some fn=>(fn.name != "runtime.NumGoroutine")&&(match fn.body with|some c=>ny zb c|none=>true)
 | none=>true)
theorem codes:(List.range 263).all TB=true:=by kernel_rfl
theorem K':∀f,fs.testBit f=true->f<263:=λf h=>by
 rcases aX f 263 with h1|h1
 ·exact h1
 ·obtain⟨k,rfl⟩:∃k,f=250+k:=⟨f - 250,by omega⟩;rw[Nat.testBit_lt_two_pow (ak (by decide:fs<2^250*2^13) (by rw[Nat.pow_add];exact Nat.mul_le_mul_left _ (ji (by decide) (by omega))))] at h;cases h
noncomputable def Zb(f:Nat):Bool:=!fs.testBit f||(match prog.funcs[f]? with
 | some fn=>fn.body.isSome||[97,118,119,120,121,162,163,206,207,231,233,247,248,255,259,260,261,262].contains f
 | none=>true)
theorem ue:(List.range 263).all Zb=true:=by kernel_rfl
def typeAt(i:TypeInfo):Bool:=(match i.zero with|some z=>sS zb 6 z|none=>true)&&i.methods.toList.all λm=>!zb.N m.name||(match m.func with|some (f,_)=>fs.testBit f|none=>true)
theorem types:prog.types.toList.all typeAt=true:=by kernel_rfl
theorem globals_size:prog.globals.size=7:=by kernel_rfl
variable{Z':Zone}
theorem ya(h:Le zone Z'):qT Z':=λt=>h.T▸(rfl:zb.T t=true)
theorem Lp(h:Le zone Z'):POK Z' prog:=by
 have hty:∀(t:Nat)(i:TypeInfo),prog.types[t]?=some i->typeAt i=true:=λt i hi=>aQ.1 types i (by rw[<-dG] at hi;exact aJ hi);have hz:∀(t:Nat)(i:TypeInfo),prog.types[t]?=some i->mF Z' i:=λt i hi z hzz=>by
  have h1:=hty t i hi;unfold typeAt at h1;simp only[aH] at h1;rw[hzz] at h1;exact(sS.sound _ _ h1.1).mono h
 refine⟨λt i z hi=>(pO (Z:=Z') hz hi).1 z,h.D _ (show prog.globals.size<=7 by rw[globals_size];exact aj _),λt i _ hi m hm hN f p hf=>?_⟩;rcases aX t prog.types.size with ht|ht
 ·have h1:=hty t i (rD ht hi);unfold typeAt at h1;simp only[aH] at h1;have h2:=aQ.1 h1.2 m (by simpa using hm);rw[hf] at h2;have hN':zb.N m.name=true:=by rw[h.N] at hN;exact hN
  rw[hN'] at h2;rw[h.F];exact(by simpa using h2:fs.testBit f=true)
 ·rw[(pO (Z:=Z') hz hi).2 ht] at hm;simp at hm
theorem kw(h:Le zone Z'){f:FuncId}(hf:Z'.F f):fs.testBit f=true:=by rw[h.F] at hf;exact hf
theorem x_(h:Le zone Z'):∀b,b<prog.globals.size->Z'.D b:=λb hb=>h.D b (by rw[globals_size] at hb;exact Nat.le_of_lt hb)
theorem Y8{fn:Func}{x:Array Value->Sem Value}(hn:Extern.findNext fn=none)(hf:Extern.find fn=some x)(hx:∀args,AP Z' args->Sf Z' prog (VP Z') (x args)):
 (∀e args,Extern.findNext fn=some e->AP Z' args->Sf Z' prog (rQ Z') (e args))/\(∀e args,Extern.find fn=some e->AP Z' args->Sf Z' prog (VP Z') (e args)):=
 ⟨λe args h=>absurd h (by rw[hn];simp),λe args h ha=>(aF (hf.symm.trans h))▸hx args ha⟩
theorem c2M{fn:Func}(hn:Extern.findNext fn=none)(hf:Extern.find fn=none):
 (∀e args,Extern.findNext fn=some e->AP Z' args->Sf Z' prog (rQ Z') (e args))/\(∀e args,Extern.find fn=some e->AP Z' args->Sf Z' prog (VP Z') (e args)):=
 ⟨λe args h=>absurd h (by rw[hn];simp),λe args h=>absurd h (by rw[hf];simp)⟩
theorem J'(h:Le zone Z'):∀f∈[97,118,119,120,121,162,163,206,207,231,233,247,248,255,259,260,261,262],∀fn,prog.funcs[f]?=some fn->
 (∀e args,Extern.findNext fn=some e->AP Z' args->Sf Z' prog (rQ Z') (e args))/\(∀e args,Extern.find fn=some e->AP Z' args->Sf Z' prog (VP Z') (e args)):=by
 have hP:=Lp h;have hT:=ya h;have hG:=x_ h;intro f hf fn hfn;simp only[aY,iH,or_false] at hf;rcases hf with rfl|rfl|rfl|rfl|rfl|rfl|rfl|rfl|rfl|rfl|rfl|rfl|rfl|rfl|rfl|rfl|rfl|rfl
 ·obtain rfl:=aF (func97.symm.trans hfn);exact Y8 (x:=ReflectliteType.typeOf) (by kernel_rfl) (by kernel_rfl) λargs ha=>b9n hT hP ha
 ·obtain rfl:=aF (func118.symm.trans hfn);exact Y8 (x:=Atomic.loadT (.int .i64)) (by kernel_rfl) (by kernel_rfl) λargs ha=>b9q hP _ ha
 ·obtain rfl:=aF (func119.symm.trans hfn);exact Y8 (x:=λargs=>ReflectliteValue.unpack (args.getD 0 (.tuple #[]))) (by kernel_rfl) (by kernel_rfl) λargs ha=>IT hT hP (ha.getD 0 (.tuple _ AP.nil))
 ·obtain rfl:=aF (func120.symm.trans hfn);exact Y8 (x:=ReflectliteValue.methodAny (ReflectliteValue.valueError "reflectlite.Value.Type" 0) λt _ _ _=>ReflectliteType.toType t) (by kernel_rfl) (by kernel_rfl) λargs ha=>b0J hT hP (KH hT hP _ _) (λt _ _ _ _=>ZX hT hP t) ha
 ·obtain rfl:=aF (func121.symm.trans hfn);exact Y8 (x:=ReflectliteValue.method (ReflectliteValue.valueError "reflectlite.Value.IsNil" 0) ReflectliteValue.isNil) (by kernel_rfl) (by kernel_rfl) λargs ha=>cx hT hP (KH hT hP _ _) (λt a fl k h=>b9o hT hP t h fl k) ha
 ·obtain rfl:=aF (func162.symm.trans hfn);exact Y8 (x:=ReflectliteValue.method (ReflectliteValue.valueError "reflectlite.Value.Elem" 0) ReflectliteValue.elem) (by kernel_rfl) (by kernel_rfl) λargs ha=>cx hT hP (KH hT hP _ _) (λt a fl k h=>c2Q hT hP t h fl k) ha
 ·obtain rfl:=aF (func163.symm.trans hfn);exact Y8 (x:=ReflectliteValue.set) (by kernel_rfl) (by kernel_rfl) λargs ha=>GE hT hP ha
 ·obtain rfl:=aF (func206.symm.trans hfn);exact Y8 (x:=AbiNoEscape.same) (by kernel_rfl) (by kernel_rfl) λargs ha=>I' ha
 ·obtain rfl:=aF (func207.symm.trans hfn);exact Y8 (x:=BytealgMakeNoZero.makeNoZero Tryz.f207.params Tryz.f207.resultTypes) (by kernel_rfl) (by kernel_rfl) λargs ha=>b0M hP _ _ ha
 ·obtain rfl:=aF (func231.symm.trans hfn);exact Y8 (x:=BytealgIndex.index) (by kernel_rfl) (by kernel_rfl) λargs ha=>c2R hP hG ha
 ·obtain rfl:=aF (func233.symm.trans hfn);exact Y8 (x:=BytealgIndexByte.indexByte) (by kernel_rfl) (by kernel_rfl) λargs ha=>b23 ha
 ·obtain rfl:=aF (func247.symm.trans hfn);exact c2M (by kernel_rfl) (by kernel_rfl)
 ·obtain rfl:=aF (func248.symm.trans hfn);exact Y8 (x:=ReflectliteType.abiMethod λt=>do pure (.int .u8 (<-Rtype.kind t))) (by kernel_rfl) (by kernel_rfl) λargs ha=>b21 hT hP (λt=>Sf.bind (TL t) λ_ _=>Sf.pure (.int _ _)) args
 ·obtain rfl:=aF (func255.symm.trans hfn);exact Y8 (x:=ReflectliteValue.method (pure (.int .u8 0)) λ_ _ _ k=>pure (.int .u8 (Int.ofNat k))) (by kernel_rfl) (by kernel_rfl) λargs ha=>cx hT hP (Sf.pure (.int _ _)) (λ_ _ _ _ _=>Sf.pure (.int _ _)) ha
 ·obtain rfl:=aF (func259.symm.trans hfn);exact Y8 (x:=ReflectliteType.relation "AssignableTo" ReflectliteType.assignableTo) (by kernel_rfl) (by kernel_rfl) λargs ha=>N5 hT hP (a8B hT hP) args
 ·obtain rfl:=aF (func260.symm.trans hfn);exact Y8 (x:=ReflectliteType.method λt=>do Rtype.noPackHeld "Comparable" t;pure (.bool (<-typeInfo t).comparable)) (by kernel_rfl) (by kernel_rfl) λargs ha=>I0 b0I args
 ·obtain rfl:=aF (func261.symm.trans hfn);exact Y8 (x:=ReflectliteType.method ReflectliteType.elem) (by kernel_rfl) (by kernel_rfl) λargs ha=>I0 (c2P hT hP) args
 ·obtain rfl:=aF (func262.symm.trans hfn);exact Y8 (x:=ReflectliteType.relation "Implements" ReflectliteType.implements_) (by kernel_rfl) (by kernel_rfl) λargs ha=>N5 hT hP (a94 hT hP) args
theorem Sm:∀Z',Le zone Z'->qo Z' prog:=λZ' h=>by
 have at_:∀f fn,Z'.F f->prog.funcs[f]?=some fn->TB f=true/\Zb f=true/\fs.testBit f=true:=λf fn hf _=>by
  have h1:=kw h hf;have h2:=K' f h1;exact⟨aQ.1 codes f (fV.2 h2),aQ.1 ue f (fV.2 h2),h1⟩
 refine⟨Lp h,λf fn hf hfn=>?_,λf fn hf hfn hb=>?_,λf fn c hf hfn hb=>?_⟩
 ·obtain⟨h1,-,h3⟩:=at_ f fn hf hfn;unfold TB at h1;rw[h3,hfn] at h1;simp only[Bool.not_true,RU,aH] at h1;simpa using h1.1
 ·obtain⟨-,h1,h3⟩:=at_ f fn hf hfn;unfold Zb at h1;rw[h3,hfn] at h1;simp only[Bool.not_true,RU,hb,lH] at h1;exact J' h f (by simpa using h1) fn hfn
 ·obtain⟨h1,-,h3⟩:=at_ f fn hf hfn;unfold TB at h1;rw[h3,hfn] at h1;simp only[Bool.not_true,RU,aH,hb] at h1;exact(ny.sound h1.2).mono h
end
section
open Go.RowKit Go.Conc
def Code.behind:Nat->Code->Code
 | 0,c=>c
 | n+1,c=>match c with
  | .seq _ b=>behind n b
  | c=>c
def Code.head:Code->Code
 | .seq a _=>a
 | c=>c
noncomputable def I9(n:Nat):Code:=Code.behind n (Tryz.f14.body.getD .skip)
noncomputable def TZ:Code:=match Code.head (I9 8) with|.seq _ (.block _ c)=>c|c=>c
noncomputable def Z9:Code:=match TZ with|.loop c=>c|c=>c
noncomputable def GR:Array Oper:=match Code.head (I9 9) with|.region _ ops _=>ops|_=>#[]
noncomputable def Ua:Code:=match Z9 with|.seq _ (.seq _ (.seq (.block _ c) _))=>c|c=>c
theorem DD:I9 9=.seq (.region 24 GR false) (I9 10):=by kernel_rfl
theorem Ek:GR=#[{dst:=some 78,op:=.call {callee:=.value (.func 63),args:=#[.tmp 13],argTypes:=#[149]},type:=0,pos:= "keydir.go:126",after:=#[],guard:=none}]:=by kernel_rfl
theorem round_eq:Z9=.seq (.region 19 #[{dst:=some 73,op:=.binOp .lss 3 (.tmp 72) (.tmp 71) 3,type:=0,pos:= "keydir.go:117",after:=#[],guard:=none}] false)
 (.seq (.cond (.tmp 73) .skip (.exit 2)) (.seq (.block 3 Ua) (.region 23 #[{dst:=some 77,op:=.binOp .add 3 (.tmp 72) (.const (.int .i64 1)) 3,type:=3,pos:= "keydir.go:117",after:=#[],guard:=none},
   {dst:=some 72,op:=.move (.tmp 77),type:=3,pos:= "keydir.go:117",after:=#[{on:=0,ground:=.data}],guard:=none}] false))):=by kernel_rfl
theorem TE:Ua=.seq (.region 20 #[{dst:=some 74,op:=.move (.tmp 72),type:=3,pos:= "keydir.go:117",after:=#[],guard:=none},{dst:=some 14,op:=.alloc 3,type:=0,pos:= "keydir.go:117",after:=#[],guard:=none},
 {dst:=none,op:=.store 3 (.tmp 14) (.tmp 74),type:=0,pos:= "keydir.go:117",after:=#[{on:=1,ground:=.data},{on:=0,ground:=.data},{on:=0,ground:=.phase},{on:=1,ground:=.phase}],guard:=none}] false)
 (.seq (.region 21 #[{dst:=some 75,op:=.call {callee:=.value (.func 58),args:=#[.tmp 13,.const (.int .i64 1)],argTypes:=#[149,3]},type:=0,pos:= "keydir.go:118",after:=#[],guard:=none}] false)
   (.region 22 #[{dst:=some 76,op:=.makeFunc (.func 59) #[] #[.tmp 13,.tmp 14,.tmp 6,.tmp 4,.tmp 11,.tmp 12],type:=1,pos:= "keydir.go:119",after:=#[],guard:=none},
     {dst:=none,op:=.go {callee:=.value (.tmp 76),args:=#[],argTypes:=#[]},type:=0,pos:= "keydir.go:119",after:=#[{on:=0,ground:=.data}],guard:=none}] false)):=by kernel_rfl
end
def wE(x:Nat->Value):Array Value:=#[x 0,x 1,x 2,x 3,x 4,x 5,x 6,x 7,x 8,x 9,x 10,x 11,x 12,x 13,x 14,x 15,x 16,x 17,x 18,x 19,x 20,x 21,x 22,x 23,x 24,x 25,x 26,x 27,x 28,x 29,x 30,x 31,x 32,x 33,x 34,x 35,x 36,x 37,x 38,x 39,x 40,x 41,x 42,x 43,x 44,x 45,x 46,x 47,x 48,x 49,x 50,x 51,x 52,x 53,x 54,x 55,x 56,x 57,x 58,x 59,x 60,x 61,x 62,x 63,x 64,x 65,x 66,x 67,x 68,x 69,x 70,x 71,x 72,x 73,x 74,x 75,x 76,x 77,x 78,x 79,x 80,x 81,x 82,x 83,x 84,x 85,x 86,x 87,x 88,x 89,x 90,x 91,x 92,x 93,x 94,x 95,x 96,x 97,x 98,x 99,x 100,x 101,x 102,x 103,x 104,x 105,x 106,x 107,x 108,x 109,x 110,x 111,x 112,x 113,x 114,x 115,x 116,x 117]
def up(x:Nat->Value)(k:Nat)(v:Value)(j:Nat):Value:=if j=k then v else x j
theorem c2S{x:Nat->Value}{k:Nat}{v:Value}(h:x k=v):up x k v=x:=by
 funext j
 unfold up;split
 ·rename_i e;rw[e,h]
 ·rfl
theorem U2{A:(Nat->Value)->Array Value}{T:Array Value}{x:Nat->Value}{k:Nat}{v:Value}(e:T=A x)(h:x k=v):T=A (up x k v):=by
 rw[c2S h];exact e
theorem J3{T:Array Value}{k:Nat}{v:Value}(h:T[k]?=some v):T.getD k undef=v:=by
 rw[aA,h];rfl
theorem Zz{A:(Nat->Value)->Array Value}{n:Nat}(hA:∀x,A x=((List.range n).map x).toArray)(T:Array Value)(hT:T.size=n):T=A (λk=>T.getD k undef):=by
 rw[hA];apply Array.ext
 ·simp[hT]
 ·intro j h1 h2;simp[Array.getD,h1]
theorem b9u(x:Nat->Value):wE x=((List.range 118).map x).toArray:=by rfl
theorem zo(T:Array Value)(hT:T.size=118):T=wE (λk=>T.getD k undef):=Zz b9u T hT
section
open Go.RowKit Go.Lib Go.Maps Dk Pl
def cz(F:Nat->Prop)(a:Nat)(d:D)(w:World):Exit->Act->World->Prop
 | .normal,a',w'=>a'.defers=[]/\a'.tmps.size=118/\a'.tmps[0]?=some (o7 a)/\a'.tmps[2]?=some (.pointer none)/\a'.tmps[3]?=some .nilIface/\∃mb g v y,a'.tmps[4]?=some (.pointer (some ⟨mb,0,none⟩))/\a'.tmps[5]?=some y/\w.heap.size<=mb/\
  o8 w' mb 125 #[.int .u64 g,v]/\A7 w' F a d.aV.2.2/\fA F F w w'/\
  ((d.aV.1=none/\d.aV.2.1≠.ok/\Held w' F (λW=>ErrAt W y d.aV.2.1))\/(∃gen ids,d.aV.1=some (gen,ids)/\d.aV.2.1=.ok/\g=(gen:Int)/\y=.nilIface/\iQ w' w.heap.size v ids))
 | _,_,_=>False
noncomputable def O5(n:Nat):Code:=Code.head (I9 n)
def de(a:Nat)(w:World):Exit->Act->World->Prop
 | .normal,a',w'=>a'.defers=[]/\a'.tmps.size=118/\a'.tmps[0]?=some (o7 a)/\a'.tmps[2]?=some (.pointer none)/\a'.tmps[3]?=some .nilIface/\w'=w
 | _,_,_=>False
theorem t0{a:Nat}(T:Array Value)(hT:T.size=118)(h0:T[0]?=some (o7 a))(w:World):(O5 0).wp prog (de a w) ⟨T,[]⟩ w:=by
 rw[U2 (zo T hT) (k:=0) (J3 h0)];generalize (λk=>T.getD k undef)=x;clear hT h0;unfold O5 I9;simp only[Code.behind,Code.head,Tryz.f14,aP,wE,up,reduceIte,Nat.reduceEqDiff];go_wp2;exact⟨rfl,rfl,rfl,rfl,rfl,rfl⟩
theorem t1{a:Nat}(T:Array Value)(hT:T.size=118)(h0:T[0]?=some (o7 a))(h2:T[2]?=some (.pointer none))(h3:T[3]?=some (.nilIface))(F:Nat->Prop)(d:D)(w:World)(h:A7 w F a d)(hds:∀x∈d.ids,(d.node x).data.length<=35184372088832):(O5 1).wp prog (cz F a d w) ⟨T,[]⟩ w:=by
 rw[U2 (U2 (U2 (zo T hT) (k:=0) (J3 h0)) (k:=2) (J3 h2)) (k:=3) (J3 h3)];generalize (λk=>T.getD k undef)=x;clear hT h0 h2 h3;have hrm:=b2n F a d w h hds;have Ik:=ah hrm;clear hrm;unfold O5 I9;unfold o7 at *;simp only[Code.behind,Code.head,Tryz.f14,aP,wE,up,reduceIte,Nat.reduceEqDiff];go_wp2_with fail
 refine Ik.out.mono ?_;rintro e w1 ⟨g,v,y,rfl,hD,hC,hcase⟩;obtain⟨ia,ik,ic,rfl⟩:∃ia ik ic,v=.slice ia ik ic:=by
  rcases hcase with⟨_,_,h,_⟩|⟨_,_,_,_,_,_,h⟩
  ·exact⟨_,_,_,h⟩
  ·obtain⟨x,y,h⟩:=ownsRow_form h;exact⟨_,_,_,h⟩
 have HD:=ah hD;have HC:=ah hC;have HK:=ah hcase;clear hD hC hcase h;go_wp2;have hE:Ext w1 (w1.alloc (.cells #[.int .u64 g,.slice ia ik ic] 125)):=(Ext.refl w1).new _;refine⟨rfl,rfl,rfl,rfl,rfl,w1.heap.size,g,.slice ia ik ic,y,rfl,rfl,HC.out.size,o8.new _ _ rfl,HD.out.ext hE,HC.out.trans (fA.ext hE),?_⟩;rcases HK.out with⟨h1,h2,h3,h4,h5⟩|⟨gen,ids,h1,h2,h3,h4,h5⟩
 ·exact .inl ⟨h1,h4,h5.ext hE⟩
 ·exact .inr ⟨gen,ids,h1,h2,h3,h4,iV.row h5 _ λb hb=>hE.block b (Ep h5 hb)⟩
end
section
open Go.RowKit Go.Lib Go.Maps Dk Pl
theorem b4Q:(prog.info? 25).map (λi=>(i.zero,i.size,i.bytes))=some (some (.slice none 0 0),1,24):=by kernel_rfl
theorem c0r(z:Value)(n:Nat):madeCells #[z] n=(List.replicate n z).toArray:=by
 apply Array.ext
 ·simp[madeCells]
 ·intro i h1 h2;simp[madeCells,Nat.mod_one]
def cv(a mb:Nat)(n:Nat)(w:World):Exit->Act->World->Prop
 | .normal,a',w'=>a'.defers=[]/\a'.tmps.size=118/\a'.tmps[0]?=some (o7 a)/\a'.tmps[4]?=some (.pointer (some ⟨mb,0,none⟩))/\Ext w w'/\∃fb rb,a'.tmps[6]?=some (.pointer (some ⟨fb,0,none⟩))/\w.heap.size<=fb/\w.heap.size<=rb/\
  o8 w' fb 128 #[.slice (some ⟨rb,0,none⟩) n n]/\w'.heap[rb]?=some (.cells (List.replicate n (Value.slice none 0 0)).toArray 25)
 | _,_,_=>False
theorem t3{a mb:Nat}(T:Array Value)(hT:T.size=118)(h0:T[0]?=some (o7 a))(h4:T[4]?=some (.pointer (some ⟨mb,0,none⟩)))(g:Int)(v:Value)(ids:List Int)(w:World)(hb:o8 w mb 125 #[.int .u64 g,v])(hv:∃B,iQ w B v ids)(hn:ids.length<=60):(O5 3).wp prog (cv a mb ids.length w) ⟨T,[]⟩ w:=by
 rw[U2 (U2 (zo T hT) (k:=0) (J3 h0)) (k:=4) (J3 h4)];generalize (λk=>T.getD k undef)=x;clear hT h0 h4;obtain⟨B,hv⟩:=hv;obtain⟨ia,ic,rfl⟩:=ownsRow_form hv;have hmk:=run_make_row' (P:=prog) 128 25 (.slice none 0 0) 24 underlying128 b4Q rfl .i64 .i64 ids.length (by omega) (by omega) w;have c1:=(hb.cell 1).trans (show _=some (Value.slice ia ids.length ic) from rfl);unfold O5 I9 o7 at *;simp only[Code.behind,Code.head,Tryz.f14,aP,wE,up,reduceIte,Nat.reduceEqDiff];go_wp2;have hE1:Ext w (w.alloc (.cells (madeCells #[.slice none 0 0] ids.length) 25)):=(Ext.refl w).new _;have hE2:Ext (w.alloc (.cells (madeCells #[.slice none 0 0] ids.length) 25)) ((w.alloc (.cells (madeCells #[.slice none 0 0] ids.length) 25)).alloc (.cells #[.slice (some ⟨w.heap.size,0,none⟩) ids.length ids.length] 128)):=(Ext.refl _).new _;refine⟨rfl,rfl,rfl,rfl,Ext.trans hE1 hE2,w.heap.size+1,w.heap.size,by rfl,by omega,aj _,?_,?_⟩
 ·show(World.heap _)[_]?=_;rw[show w.heap.size+1=(w.alloc (.cells (madeCells #[.slice none 0 0] ids.length) 25)).heap.size from(fJ ..).symm];exact iC
 ·rw[c0r];show((w.heap.push _).push _)[w.heap.size]?=_;rw[gG (by simp),Array.getElem_push_eq]
end
section
open Dk
def Dk.D.bZ:List Int->D->List (List UInt8)->List (List UInt8)×Er×D
 | [],d,acc=>(acc,.ok,d)
 | id::ids,d,acc=>match d.whole (F6 I8 id.toNat) with
  | (b,.ok,d1)=>D.bZ ids d1 (acc++[b])
  | (_,e,d1)=>(acc,if e.code=11 then .file 7 (F6 I8 id.toNat) else e,d1)
theorem cP{id:Int}{ids:List Int}{d d1:D}{acc:List (List UInt8)}{b:List UInt8}(h:d.whole (F6 I8 id.toNat)=(b,.ok,d1)):D.bZ (id::ids) d acc=D.bZ ids d1 (acc++[b]):=by
 show(match d.whole (F6 I8 id.toNat) with|(b,.ok,d1)=>D.bZ ids d1 (acc++[b])|(_,e,d1)=>(acc,if e.code=11 then .file 7 (F6 I8 id.toNat) else e,d1))=_;rw[h]
theorem Vg{id:Int}{ids:List Int}{d d1:D}{acc:List (List UInt8)}{b:List UInt8}{e:Er}(h:d.whole (F6 I8 id.toNat)=(b,e,d1))(he:e≠.ok):D.bZ (id::ids) d acc=(acc,if e.code=11 then .file 7 (F6 I8 id.toNat) else e,d1):=by
 show(match d.whole (F6 I8 id.toNat) with|(b,.ok,d1)=>D.bZ ids d1 (acc++[b])|(_,e,d1)=>(acc,if e.code=11 then .file 7 (F6 I8 id.toNat) else e,d1))=_;rw[h]
 cases e with
 | ok=>exact absurd rfl he
 | num n=>rfl
 | file n m=>rfl
structure uU(d d':D):Prop where
 now:d'.now=d.now
 safe:d'.safe=d.safe
 moves:d'.moves=d.moves
 room:d'.room=d.room
 ids:d'.ids=d.ids
 node:d'.node=d.node
theorem uU.refl(d:D):uU d d:=⟨rfl,rfl,rfl,rfl,rfl,rfl⟩
theorem uU.trans{a b c:D}(h:uU a b)(k:uU b c):uU a c:=⟨k.now.trans h.now,k.safe.trans h.safe,k.moves.trans h.moves,k.room.trans h.room,k.ids.trans h.ids,k.node.trans h.node⟩
theorem Dk.D.lG(d:D):uU d d.fails.2:=let ⟨h1,h2,h3,h4,h5,h6⟩:=d.jV;⟨h1,h2,h3,h4,h5,h6⟩
theorem Dk.D.oZ(d:D)(n:Nm):uU d (d.find n).2.2:=by
 unfold D.find;split
 ·exact d.lG
 ·cases D7 d.now n<;>exact d.lG
theorem Dk.D.oO(d:D)(n:Nm):uU d (d.size n).2.2:=by
 have h:=d.oZ n;unfold D.size;obtain⟨⟨o,e,d1⟩,hr⟩:∃r,d.find n=r:=⟨_,rfl⟩;rw[hr] at h⊢;cases o<;>exact h
theorem Dk.D.qY(d:D)(n:Nm)(i k:Int):uU d (d.iE n i k).2.2:=by
 have h:=d.oZ n;unfold D.iE;obtain⟨⟨o,e,d1⟩,hr⟩:∃r,d.find n=r:=⟨_,rfl⟩;rw[hr] at h⊢;cases o<;>exact h
theorem Dk.D.lD(d:D)(n:Nm):uU d (d.whole n).2.2:=by
 have h:=d.oO n;unfold D.whole;obtain⟨⟨k,e,d1⟩,hr⟩:∃r,d.size n=r:=⟨_,rfl⟩;rw[hr] at h⊢
 cases e with
 | ok=>exact h.trans (d1.qY n 0 k)
 | num n=>exact h
 | file n m=>exact h
theorem Dk.D.lW(d:D):uU d d.aV.2.2:=by
 have h:=d.lD I5;unfold D.aV;obtain⟨⟨k,e,d1⟩,hr⟩:∃r,d.whole I5=r:=⟨_,rfl⟩;rw[hr] at h⊢
 cases e with
 | ok=>dsimp only;cases Go.Proofs.YtgpbhjjajpbeeaaGreatDoor.aV k<;>exact h
 | num n=>exact h
 | file n m=>exact h
end
section
open Go.RowKit Go.Lib Go.Maps Dk Pl
end
section
open Go.RowKit Go.Lib Go.Maps Dk Pl
theorem Y2.ext{w w':World}{v:Value}{l:Fl}(h:Y2 w v l)(hE:Ext w w'):Y2 w' v l:=by
 obtain⟨a,cap,rows,rfl,h1,h2,h3,h4,h5⟩:=h;refine⟨a,cap,rows,rfl,h1,h2,h3,λi p hp=>?_,λi p q hp hq=>⟨(h5 i p q hp hq).1,(h5 i p q hp hq).2.ext hE⟩⟩;obtain⟨g,hg,c0,c1⟩:=h4 i p hp;exact⟨g,hg,hE.cell c0,hE.cell c1⟩
theorem Y2.at{w:World}{a:Option Addr}{cap:Nat}{l:Fl}(h:Y2 w (.slice a l.length cap) l){k:Nat}{q:Nm×List UInt8}(hq:l[k]?=some q):
 ∃g bv,a=some ⟨g,0,none⟩/\w.cell? ⟨g,k*2,none⟩=some (bC q.1)/\w.cell? ⟨g,k*2+1,none⟩=some bv/\Bytes w bv q.2:=by
 obtain⟨a1,c1,r1,e1,-,-,l1,cell1,by1⟩:=h;injection e1 with e1 _ e2;subst e1;subst e2;have hk:k<l.length:=(aT.1 hq).1;obtain⟨p1,hp1⟩:∃p,r1[k]?=some p:=⟨_,au (by omega)⟩;obtain⟨g1,rfl,x0,x1⟩:=cell1 k p1 hp1;obtain⟨n1,b1⟩:=by1 k p1 q hp1 hq;rw[n1] at x0;exact⟨g1,_,rfl,x0,x1,b1⟩
theorem Y2.form{w:World}{v:Value}{l:Fl}(h:Y2 w v l):∃a cap,v=.slice a l.length cap/\l.length<=cap/\cap<=9223372036854775807:=by
 obtain⟨a1,c1,r1,e1,h1,h2,_⟩:=h;exact⟨a1,c1,e1,h1,h2⟩
def yk(w:World)(b:Nat)(ids:List Int):Prop:=
 ∃(gen:Int)(a:Option Addr)(cap:Nat),o8 w b 50 #[.int .u64 gen,.slice a ids.length cap]/\ids.length<=cap/\cap<=9223372036854775807/\
  ∀(i:Nat)x,ids[i]?=some x->∃g,a=some ⟨g,0,none⟩/\w.cell? ⟨g,i*3,none⟩=some (.int .i64 x)
def Em(ids:List Int):Prop:=ids.length<=60/\∀x∈ids,1<=x/\x<=999999
end
section
open Go.RowKit Go.Lib Pl
theorem GF(w:World)(a b:Nat):(w.drewN a).drewN b=w.drewN (a+b):=by
 induction b with
 | zero=>rfl
 | succ b ih=>show((w.drewN a).drewN b).drew=(w.drewN (a+b)).drew;rw[ih]
theorem Ints.at{w w':World}{a:Option Addr}{cap:Nat}{l:List Int}(h:Ints w (.slice a l.length cap) l)(hE:Ext w w'){k:Nat}(hk:k<l.length):∃b,a=some b/\w'.cell? (b.add k)=some (.int .i64 (l[k])):=by
 obtain⟨a',c',e,_,_,hf⟩:=(h.ext hE).open;injection e with e1;subst e1;exact hf k hk
theorem Wc(v:Value)(l:List Int)(w:World)(h:Ints w v l):
 Calls prog 77 #[v] w λe w'=>e=.returned (.bool (nC l))/\∃n,w'=w.drewN n:=by
 obtain⟨a,cap,rfl,hc,hc',-⟩:=h.open;have HI:=ah h;clear h;by_cases h60:60<l.length
 ·have hd:nC l=false:=by unfold nC;rw[aI (by omega)];rfl
  go_enter func77,ntmps77
  go_wp2;go_ret;exact⟨by first|rfl|(rw[hd];rfl),0,rfl⟩
 have H60:Hid (l.length<=60):=by
  have:l.length<=60:=by omega
  exact this
 go_enter func77,ntmps77
 go_wp2;go_loopw [3,4] (λi _ wr=>∃k:Nat,k<=l.length/\i=.int .i64 k/\GZ l k/\∃n,wr=w.drewN n) (λi _ _=>l.length - (intOf i).toNat)
 case atStart=>exact⟨0,bU _,rfl,⟨rfl,Ig⟩,0,rfl⟩
 case round=>
  obtain⟨k,hk,rfl,hg,n,rfl⟩:=hrel;by_cases hlt:k<l.length
  ·obtain⟨b,rfl,hb⟩:=HI.out.at (Ext.drewN w n) hlt;have HG:=ah hg;clear hg;by_cases h1:l[k]<1
   ·have hf:=UZ (x:=l[k]) hlt rfl (by unfold inRange;rw[aI (by omega)];rfl);go_wp2;go_ret;exact⟨by first|rfl|(rw[hf];rfl),n,rfl⟩
   by_cases h2:999999<l[k]
   ·have hf:=UZ (x:=l[k]) hlt rfl (by unfold inRange;rw[aI (show ¬l[k]<=999999 by omega)];simp);go_wp2;go_ret;exact⟨by first|rfl|(rw[hf];rfl),n,rfl⟩
   go_wp2;go_loopw [4] (λj wr=>∃m:Nat,m<=k/\j=.int .i64 m/\l[k]∉l.take m/\∃n,wr=w.drewN n) (λj _=>k - (intOf j).toNat)
   case atStart=>exact⟨0,bU _,rfl,by simp,n,rfl⟩
   case round=>
    obtain⟨m,hm,rfl,hne,n',rfl⟩:=hrel;by_cases hmk:m<k
    ·obtain⟨b',eb,hb1⟩:=HI.out.at (Ext.drewN w n') (k:=m) (by omega);injection eb with eb;subst eb;obtain⟨b',eb,hb2⟩:=HI.out.at (Ext.drewN w n') hlt;injection eb with eb;subst eb;have HN:=ah hne;clear hne;clear hb;generalize hwn:w.drewN n'=wn at *;have hml:m<l.length:=by omega
     by_cases he:l[m]=l[k]
     ·have he':((l[m]:Int)==l[k])=true:=dP.2 he;have hf:=LS (x:=l[k]) hlt rfl (by rw[<-he];exact List.mem_take_iff_getElem.2 ⟨m,by omega,rfl⟩);clear he;go_wp2;go_quiet (fail)
      go_wp2;go_ret;exact⟨by first|rfl|(rw[hf];rfl),n'+nq,by rw[<-hwn,GF]⟩
     ·have he':((l[m]:Int)==l[k])=false:=bn.2 he;have HM:Hid (l[k]∉l.take (m+1)):=by
       have:l[k]∉l.take (m+1):=by
        rw[take_snoc l m hml,aU];rintro(h|h)
        ·exact HN.out h
        ·simp at h;exact he h.symm
       exact this
      clear he;go_wp2;go_quiet (fail)
      go_wp2;go_roundw
      case rel=>exact⟨m+1,by omega,by go_num,HM.out,n'+nq,by rw[<-hwn,GF]⟩
      case measure=>simp[intOf];omega
    ·obtain rfl:m=k:=by omega
     have HN:=ah hne;clear hne;go_wp2;go_roundw
     case rel=>exact⟨m+1,by omega,by go_num,Vn HG.out hlt rfl (by unfold inRange;rw[aG (show 1<=l[m] by omega),aG (show l[m]<=999999 by omega)];rfl) HN.out,n',rfl⟩
     case measure=>simp[intOf];omega
  ·go_wp2;go_ret;obtain rfl:k=l.length:=by omega
   unfold GZ at hg;rw[bG] at hg;refine⟨?_,n,rfl⟩;unfold nC;rw[hg.1,aG hg.2,aG H60.out];rfl
end
section
open Go.RowKit Go.Lib Go.Maps Dk Pl
theorem b7E(kind:Nm)(k:Nat):(F6 kind k).length=kind.length+6:=by simp[F6]
structure xg(w0 w:World)(rb n:Nat)(vs:List Value)(bs:List (List UInt8)):Prop where
 len:vs.length=bs.length
 le:bs.length<=n
 row:w.heap[rb]?=some (.cells (vs++List.replicate (n - bs.length) (Value.slice none 0 0)).toArray 25)
 at_:∀(j:Nat)(u:Value)(b:List UInt8),vs[j]?=some u->bs[j]?=some b->OwnB w w0.heap.size u b/\ug w u
theorem xg.keep{w0 w w':World}{rb n:Nat}{vs:List Value}{bs:List (List UInt8)}(h:xg w0 w rb n vs bs)(hr:w'.heap[rb]?=w.heap[rb]?)(hk:∀b,w0.heap.size<=b->b<w.heap.size->b≠rb->w'.heap[b]?=w.heap[b]?):xg w0 w' rb n vs bs:=by
 refine⟨h.len,h.le,hr.trans h.row,λj u b hu hb=>?_⟩;obtain⟨h1,h2⟩:=h.at_ j u b hu hb;have key:∀g,u.ownBlock=some g->w'.heap[g]?=w.heap[g]?:=λg hg=>by
  have hl:=World.ownsRow.lt h1 g hg;by_cases e:g=rb
  ·rw[e];exact hr
  ·exact hk g hl.1 hl.2 e
 exact⟨iV.row h1 w' key,h2.keep key⟩
theorem xg.put{w0 w:World}{rb n:Nat}{vs:List Value}{bs:List (List UInt8)}{u:Value}{b:List UInt8}(h:xg w0 w rb n vs bs)(hu:OwnB w w0.heap.size u b)(hf:ug w u)(hk:bs.length<n)(hrl:rb<w0.heap.size):xg w0 (w.setCell ⟨rb,bs.length,none⟩ u) rb n (vs++[u]) (bs++[b]):=by
 have hO:=(Off.refl rb w).setCell bs.length u;have key:∀{v:Value}{l:List UInt8},OwnB w w0.heap.size v l->ug w v->OwnB (w.setCell ⟨rb,bs.length,none⟩ u) w0.heap.size v l/\ug (w.setCell ⟨rb,bs.length,none⟩ u) v:=λh1 h2=>by
  have k:∀g,_=some g->(w.setCell ⟨rb,bs.length,none⟩ u).heap[g]?=w.heap[g]?:=λg hg=>hO.block g λe=>by have:=(World.ownsRow.lt h1 g hg).1;omega
  exact⟨iV.row h1 _ k,h2.keep k⟩
 refine⟨by simp[h.len],by simp;omega,?_,λj v l hv hl=>?_⟩
 ·have hr:=h.row;have e:(w.setCell ⟨rb,bs.length,none⟩ u).heap[rb]?=some (.cells ((vs++List.replicate (n - bs.length) (Value.slice none 0 0)).toArray.setIfInBounds bs.length u) 25):=by simp[World.setCell,aO,hr]
  rw[e];congr 2
  rw[List.setIfInBounds_toArray];congr 1
  rw[List.set_append_right _ _ (by rw[h.len];omega),h.len,Nat.sub_self];obtain⟨m,hm⟩:∃m,n - bs.length=m+1:=⟨n - bs.length - 1,by omega⟩;rw[hm,List.replicate_succ,List.set_cons_zero,fH];have:n - (bs++[b]).length=m:=by simp;omega
  rw[this];rfl
 ·by_cases hj:j<bs.length
  ·rw[bH (by rw[h.len];exact hj)] at hv;rw[bH hj] at hl;obtain⟨h1,h2⟩:=h.at_ j v l hv hl;exact key h1 h2
  ·rw[bF (by rw[h.len];omega)] at hv;rw[bF (by omega)] at hl;rw[h.len] at hv;obtain⟨e,-⟩:=aT.1 hv;have hj0:j - bs.length=0:=by simp at e;omega
   rw[hj0] at hv hl;simp at hv hl;subst hv hl;exact key hu hf
def cp(F:Nat->Prop)(a mb fb rb:Nat)(d:D)(ids:List Int)(w:World):Exit->Act->World->Prop
 | .normal,a',w'=>a'.defers=[]/\a'.tmps.size=118/\a'.tmps[0]?=some (o7 a)/\a'.tmps[4]?=some (.pointer (some ⟨mb,0,none⟩))/\a'.tmps[6]?=some (.pointer (some ⟨fb,0,none⟩))/\(D.bZ ids d []).2.1=.ok/\A7 w' F a (D.bZ ids d []).2.2/\
  fA (λb=>F b\/b=rb) (λb=>F b\/b=rb) w w'/\∃vs,xg w w' rb ids.length vs (D.bZ ids d []).1/\(D.bZ ids d []).1.length=ids.length
 | .ret,a',w'=>a'.defers=[]/\∃y,a'.tmps[2]?=some (.pointer none)/\a'.tmps[3]?=some y/\(D.bZ ids d []).2.1≠.ok/\A7 w' F a (D.bZ ids d []).2.2/\fA (λb=>F b\/b=rb) (λb=>F b\/b=rb) w w'/\Held w' F (λW=>ErrAt W y (D.bZ ids d []).2.1)
 | _,_,_=>False
theorem tD{F:Nat->Prop}{rb:Nat}{w w':World}(h:fA F F w w'):fA (λb=>F b\/b=rb) (λb=>F b\/b=rb) w w':=
 ⟨h.os,h.tape,h.output,h.size,λb hb hF=>h.block b hb λh=>hF (.inl h),λb h=>.inl h⟩
theorem t4{a mb fb rb:Nat}(T:Array Value)(hT:T.size=118)(h0:T[0]?=some (o7 a))(h4:T[4]?=some (.pointer (some ⟨mb,0,none⟩)))(h6:T[6]?=some (.pointer (some ⟨fb,0,none⟩)))(F:Nat->Prop)(g:Int)(ia:Option Addr)(ic:Nat)(d:D)(ids:List Int)(w:World)(h:A7 w F a d)(hds:∀x∈d.ids,(d.node x).data.length<=35184372088832)(hI:Em ids)
 (hH:Held w (λb=>F b\/b=rb) (λW=>(o8 W mb 125 #[.int .u64 g,.slice ia ids.length ic]/\Ints W (.slice ia ids.length ic) ids)/\o8 W fb 128 #[.slice (some ⟨rb,0,none⟩) ids.length ids.length]/\nZ W))
 (hrb:w.heap[rb]?=some (.cells (List.replicate ids.length (Value.slice none 0 0)).toArray 25))(Sz:¬F rb):(O5 4).wp prog (cp F a mb fb rb d ids w) ⟨T,[]⟩ w:=by
 rw[U2 (U2 (U2 (zo T hT) (k:=0) (J3 h0)) (k:=4) (J3 h4)) (k:=6) (J3 h6)];generalize (λk=>T.getD k undef)=x;clear hT h0 h4 h6;have hrl:rb<w.heap.size:=lt_of_block hrb;have c0:w.cell? ⟨mb,1,none⟩=some (.slice ia ids.length ic):=(hH.get.1.1.cell 1).trans rfl;have hlow:=h.low;have HH:=ah hH;have HD:=ah h;have EY:=ah hds;have HI:=ah hI;have HRB:=ah hrb;have HLO:=ah hlow;have pi:=hI.1;clear hH h hds hI hrb hlow;unfold O5 I9 o7 at *;simp only[Code.behind,Code.head,Tryz.f14,aP,wE,up,reduceIte,Nat.reduceEqDiff];go_wp2;go_loopw [34] (λi wr=>∃(k:Nat)(bs:List (List UInt8))(dk:D)(vs:List Value),i=.int .i64 k/\k<=ids.length/\bs.length=k/\D.bZ ids d []=D.bZ (ids.drop k) dk bs/\uU d dk/\A7 wr F a dk/\
  fA (λb=>F b\/b=rb) (λb=>F b\/b=rb) w wr/\xg w wr rb ids.length vs bs) (λi _=>ids.length - (intOf i).toNat)
 case atStart=>exact⟨0,[],d,[],rfl,by omega,rfl,rfl,.refl d,HD.out,.refl _ w,rfl,by simp,by simpa using HRB.out,λj u b hu=>by simp at hu⟩
 case round=>
  obtain⟨k,bs,dk,vs,rfl,hk,hbs,hop,hsame,SI,OG,hrow⟩:=hrel;have SH:=HH.out.step OG;obtain⟨⟨hmb,hint⟩,hfb,hlaid⟩:=SH.get;by_cases hlt:k<ids.length
  ·obtain⟨xb,rfl,qV⟩:=Ints.at hint (Ext.refl wr) hlt;have hr:=HI.out.2 ids[k] (fE hlt);obtain⟨y,hy⟩:∃y:Nat,ids[k]=(y:Int):=⟨ids[k].toNat,by omega⟩;have hdrop:ids.drop k=ids[k]::ids.drop (k+1):=gY hlt;rw[hdrop] at hop;rw[hy] at qV hr hop;have hnm:=bE I8 y wr (by simp[I8]) (by omega) hlaid;have hsl:(F6 I8 y).length<=maxLen:=by rw[b7E];unfold I8 maxLen;simp
   have NY:∀z∈dk.ids,(dk.node z).data.length<=35184372088832:=λz hz=>by rw[hsame.node];rw[hsame.ids] at hz;exact EY.out z hz
   have vC:=ah hnm;have Rz:=ah hop;have HDK:=ah SI;have Wh:=ah OG;have qE:=ah hrow;have VL:=ah hsame;have iz:=ah NY;have gx:=ah SH;have ju:=ah hbs;have HSL:=ah hsl;clear hnm hop SI OG hrow hsame NY SH hbs hsl hmb hint hfb hlaid hdrop;unfold bC I8 at vC;go_wp2_with fail
   refine vC.out.mono ?_;rintro e w1 ⟨rfl,hE1⟩;have hwh:=LI F a dk (F6 I8 y) w1 (HDK.out.ext hE1) HSL.out iz.out;have hws:=D.lD dk (F6 I8 y);have hwe:=EA dk (F6 I8 y);obtain⟨⟨b,er,d1⟩,hwr⟩:∃r,dk.whole (F6 I8 y)=r:=⟨_,rfl⟩;rw[hwr] at hwh hws hwe;have sJ:=Wh.out.trans (fA.ext (F:=λb=>F b\/b=rb) hE1);have fh:=ah hwh;have vF:=ah sJ;have e9:=ah hwr;have HWS:=ah hws;have lV:=ah hE1;clear hwh sJ hwr hws hE1 vC;unfold bC o7 I8 at fh;go_wp2_with fail
   refine fh.out.mono ?_;rintro e w2 ⟨u,v,rfl,hB,hv,hD2,hC2,hfl⟩;have his:=tG er v 11 w2 hv.get (by omega);have hH2:Held w2 (λb=>F b\/b=rb) _:=(gx.out.ext lV.out).step (tD hC2);have OL:=vF.out.trans (tD (rb:=rb) hC2);have hrow2:xg w w2 rb ids.length vs bs:=by
    have hlo:=HLO.out;refine qE.out.keep ?_ λb h1 h2 h3=>?_
    ·exact(hC2.block rb (by have:=vF.out.size;omega) Sz).trans (lV.out.block rb (by have:=Wh.out.size;omega))
    ·exact(hC2.block b (by have:=lV.out.size;omega) λh=>by have:=hlo b h;omega).trans (lV.out.block b h2)
   have hB2:OwnB w2 w.heap.size u b:=O4 hB vF.out.size;have HIS:=ah his;have gz:=ah hH2;have HC2:=ah OL;have vk:=ah hrow2;have HB:=ah hB2;have xG:=ah hfl;have HV:=ah hv;have HD2:=ah hD2;clear his hH2 hC2 OL hrow2 hB hB2 hfl hv hD2 fh qE gx lV;unfold Z5 at HIS;obtain⟨ua,uc,rfl⟩:=ownsRow_form HB.out
   cases er with
   | ok=>
    obtain rfl:v=.nilIface:=HV.out.get;have hrw:=vk.out.row;have hbk:=ju.out;have qa:=(gz.out.get.2.1.cell 0).trans (show _=some (Value.slice (some ⟨rb,0,none⟩) ids.length ids.length) from rfl);have hcell:w2.cell? ⟨rb,k,none⟩=some (.slice none 0 0):=by
     simp only[World.cell?,hrw,lH,cu,if_false,iU];rw[bF (by rw[vk.out.len];omega),List.getElem?_replicate_of_lt (by rw[vk.out.len];omega)]
    have p_:w2.frozen? ⟨rb,k,none⟩=false:=by simp[World.frozen?,hrw]
    have pw:(k:Int)<(ids.length:Int):=by omega
    have hd:decide (Er.code .ok=11)=false:=rfl;rw[hd] at HIS;clear hd hwe;go_wp2_with fail
    refine HIS.out.mono ?_;rintro e w3 ⟨rfl,rfl⟩;go_wp2;go_roundw
    case rel=>
     have hset:=vk.out.put HB.out xG.out (by omega) hrl;rw[hbk] at hset;have Gl:=(Off.refl rb w3).setCell k (.slice ua b.length uc);refine⟨k+1,bs++[b],d1,vs++[.slice ua b.length uc],by go_num,by omega,by simp[hbk],?_,VL.out.trans HWS.out,?_,?_,hset⟩
     ·rw[Rz.out];exact cP (by rw[iw];exact e9.out)
     ·exact HD2.out.frame (λb hb=>Gl.block b λe=>Sz (e▸hb)) (dS Gl.size.symm)
     ·exact HC2.out.trans (fA.off Gl (.inr rfl))
    case measure=>simp[intOf];omega
   | num m=>rcases hwe with h|⟨_,h⟩<;>cases h
   | file m nm=>
    obtain⟨tn,hvb,oJ,yC⟩:=LA HV.out;subst hvb;by_cases hm:m=11
    ·subst hm;have hd:decide (Er.code (.file 11 nm)=11)=true:=rfl;rw[hd] at HIS;have Nu:=bE I8 y w2 (by simp[I8]) (by omega) gz.out.get.2.2;have hres:D.bZ ids d []=(bs,.file 7 (F6 I8 y),d1):=by
      rw[Rz.out,Vg (e:=.file 11 nm) (b:=b) (d1:=d1) (by rw[iw];exact e9.out) (by simp)];simp[Er.code,iw]
     have Dl:=ah Nu;have sQ:=ah hres;clear hd hwe Nu hres;unfold bC I8 at Dl;go_wp2_with fail
     refine HIS.out.mono ?_;rintro e w3 ⟨rfl,rfl⟩;go_wp2_with fail
     refine Dl.out.mono ?_;rintro e w4 ⟨rfl,mW⟩;have hD4:=HD2.out.ext mW;have vX:=HC2.out.trans (fA.ext mW);have DT:=hD4.low;have HD4:=ah hD4;have Ah:=ah vX;have VU:=ah DT;clear hD4 vX DT mW;go_wp2;have mg:Ext w4 (w4.alloc (.cells #[bC (F6 I8 y),.int .i64 7] 134)):=(Ext.refl w4).new _;refine⟨rfl,_,rfl,rfl,?_,?_,?_,?_⟩
     ·rw[sQ.out];simp
     ·rw[sQ.out];exact HD4.out.ext mg
     ·exact Ah.out.trans (fA.ext mg)
     ·rw[sQ.out];exact EI VU.out
    ·have hd:decide (Er.code (.file m nm)=11)=false:=aI hm;rw[hd] at HIS;have hres:D.bZ ids d []=(bs,.file m nm,d1):=by
      rw[Rz.out,Vg (e:=.file m nm) (b:=b) (d1:=d1) (by rw[iw];exact e9.out) (by simp)];simp[Er.code,hm]
     have hH5:Held w2 F (λW=>ErrAt W (.iface 132 (.pointer (some ⟨tn,0,none⟩))) (.file m nm)):=HV.out;have sQ:=ah hres;have HH5:=ah hH5;clear hd hwe hres hH5 oJ yC HV;go_wp2_with fail
     refine HIS.out.mono ?_;rintro e w3 ⟨rfl,rfl⟩;go_wp2;refine⟨rfl,_,rfl,rfl,?_,?_,?_,?_⟩
     ·rw[sQ.out];simp
     ·rw[sQ.out];exact HD2.out
     ·exact HC2.out
     ·rw[sQ.out];exact HH5.out
  ·obtain rfl:k=ids.length:=by omega
   have hres:D.bZ ids d []=(bs,.ok,dk):=by
    rw[hop,List.drop_length];rfl
   have HDK:=ah SI;have Wh:=ah OG;have qE:=ah hrow;have sQ:=ah hres;have ju:=ah hbs;clear SI OG hrow hres hop hsame SH hmb hint hfb hlaid hbs;go_wp2;refine⟨rfl,rfl,rfl,rfl,rfl,?_,?_,Wh.out,vs,?_,?_⟩
   ·rw[sQ.out]
   ·rw[sQ.out];exact HDK.out
   ·rw[sQ.out];exact qE.out
   ·rw[sQ.out];exact ju.out
end
section
open Go.RowKit Go.Lib Go.Maps Dk Pl
theorem b2k:(prog.info? 154).map (λi=>(i.zero,i.size,i.bytes))=some (some (.agg #[.int .i64 0,.slice none 0 0]),2,32):=by kernel_rfl
def cn(a mb fb n:Nat)(g:Int)(v:Value)(w:World):Exit->Act->World->Prop
 | .normal,a',w'=>a'.defers=[]/\a'.tmps.size=118/\a'.tmps[4]?=some (.pointer (some ⟨mb,0,none⟩))/\a'.tmps[6]?=some (.pointer (some ⟨fb,0,none⟩))/\Ext w w'/\∃sx sb Cb,a'.tmps[11]?=some (.pointer (some ⟨sx,0,none⟩))/\w.heap.size<=sx/\w.heap.size<=sb/\w.heap.size<=Cb/\sb≠Cb/\sx≠Cb/\sx≠sb/\
  o8 w' sx 32 #[.pointer (some ⟨sb,0,none⟩)]/\o8 w' sb 138 #[o7 a,.int .u64 g,v,.slice (some ⟨Cb,0,none⟩) n n,.map none,.int .i64 0]/\w'.heap[Cb]?=some (.cells (madeCells #[.int .i64 0,.slice none 0 0] (n*2)) 154)
 | _,_,_=>False
theorem three(w:World)(o1 o2 o3:Obj):(((w.alloc o1).alloc o2).alloc o3).drew.heap[w.heap.size]?=some o1/\(((w.alloc o1).alloc o2).alloc o3).drew.heap[w.heap.size+1]?=some o2/\(((w.alloc o1).alloc o2).alloc o3).drew.heap[w.heap.size+1+1]?=some o3/\Ext w (((w.alloc o1).alloc o2).alloc o3).drew:=by
 have h1:(((w.alloc o1).alloc o2).alloc o3).drew.heap=((w.heap.push o1).push o2).push o3:=rfl;refine⟨?_,?_,?_,?_⟩
 ·rw[h1,gG (by simp;omega),Array.getElem_push_lt (by simp),Array.getElem_push_eq]
 ·have e:w.heap.size+1=(w.heap.push o1).size:=(fJ ..).symm;rw[h1,e,dN,if_neg (by rw[fJ (xs:=w.heap.push o1)];omega)];exact iC
 ·rw[h1];have e:w.heap.size+1+1=((w.heap.push o1).push o2).size:=by rw[fJ,fJ]
  rw[e];exact iC
 ·exact Below.drew ((((Ext.refl w).new o1).new o2).new o3)
theorem t5{a mb fb:Nat}(T:Array Value)(hT:T.size=118)(h0:T[0]?=some (o7 a))(h4:T[4]?=some (.pointer (some ⟨mb,0,none⟩)))(h6:T[6]?=some (.pointer (some ⟨fb,0,none⟩)))(g:Int)(ia:Option Addr)(n ic:Nat)(w:World)(hb:o8 w mb 125 #[.int .u64 g,.slice ia n ic])(hn:n<=60):(O5 5).wp prog (cn a mb fb n g (.slice ia n ic) w) ⟨T,[]⟩ w:=by
 rw[U2 (U2 (U2 (zo T hT) (k:=0) (J3 h0)) (k:=4) (J3 h4)) (k:=6) (J3 h6)];generalize (λk=>T.getD k undef)=x;clear hT h0 h4 h6;obtain⟨i0,hi,hz0,hz1,hz2⟩:=info_parts b2k;have hmk:∀w:World,(Instr.makeSlice 135 (.int .i64 n) (.int .i64 n)).run prog w=.ok (.slice (some ⟨w.heap.size,0,none⟩) n n) (w.alloc (.cells (madeCells #[.int .i64 0,.slice none 0 0] (n*2)) 154)):=λw=>by
  have:=run_make (P:=prog) w 135 154 i0 _ underlying135 hi hz0 .i64 .i64 n n (by omega) (by omega) (by rw[hz2];omega) (by omega);rw[hz1] at this;exact this
 have d0:w.drew.cell? ⟨mb,0,none⟩=some (.int .u64 g):=(hb.cell 0).trans rfl;have d1:w.drew.cell? ⟨mb,1,none⟩=some (.slice ia n ic):=(hb.cell 1).trans rfl;have hl:mb<w.heap.size:=hb.lt;have hsz:w.drew.heap.size=w.heap.size:=rfl;have e0:∀o,(w.drew.alloc o).cell? ⟨mb,0,none⟩=some (.int .u64 g):=λo=>(World.cell?_alloc_lt _ _ _ hl).trans d0;have e1:∀o,(w.drew.alloc o).cell? ⟨mb,1,none⟩=some (.slice ia n ic):=λo=>(World.cell?_alloc_lt _ _ _ hl).trans d1;have c0:w.cell? ⟨mb,0,none⟩=some (.int .u64 g):=(hb.cell 0).trans rfl;have c1:w.cell? ⟨mb,1,none⟩=some (.slice ia n ic):=(hb.cell 1).trans rfl;have f0:∀o,(w.alloc o).drew.cell? ⟨mb,0,none⟩=some (.int .u64 g):=λo=>(World.cell?_alloc_lt _ _ _ hl).trans c0;have f1:∀o,(w.alloc o).drew.cell? ⟨mb,1,none⟩=some (.slice ia n ic):=λo=>(World.cell?_alloc_lt _ _ _ hl).trans c1;unfold O5 I9 o7 at *;simp only[Code.behind,Code.head,Tryz.f14,aP,wE,up,reduceIte,Nat.reduceEqDiff];go_region
 ·exact⟨rfl,rfl,rfl,rfl,(three w _ _ _).2.2.2,w.heap.size+1+1,w.heap.size+1,w.heap.size,rfl,by omega,by omega,by omega,by omega,by omega,by omega,(three w _ _ _).2.2.1,(three w _ _ _).2.1,(three w _ _ _).1⟩
 ·exact⟨rfl,rfl,rfl,rfl,(three w _ _ _).2.2.2,w.heap.size+1,w.heap.size+1+1,w.heap.size,rfl,by omega,by omega,by omega,by omega,by omega,by omega,(three w _ _ _).2.1,(three w _ _ _).2.2.1,(three w _ _ _).1⟩
 ·exact⟨rfl,rfl,rfl,rfl,(three w _ _ _).2.2.2,w.heap.size,w.heap.size+1+1,w.heap.size+1,rfl,by omega,by omega,by omega,by omega,by omega,by omega,(three w _ _ _).1,(three w _ _ _).2.2.1,(three w _ _ _).2.1⟩
end
section
open Go.RowKit Go.Lib Pl
theorem Kq{l:List UInt8}{r:Rec}(h:dec l=some r):17<=r.size/\r.size<=l.length:=by
 unfold dec at h;split at h
 ·rename_i hg;injection h with h;subst h;unfold good at hg;simp only[aH,dQ] at hg;obtain⟨h1,-,h3,-⟩:=hg;dsimp only;omega
 ·cases h
def P9:Nat->Nat->List UInt8->List (Nat×Rec)
 | 0,_,_=>[]
 | n+1,off,l=>match dec (l.drop off) with
  | none=>[]
  | some r=>(off,r)::P9 n (off+r.size) l
def N7(l:List UInt8):List (Nat×Rec):=P9 (l.length+1) 0 l
def P7(seg:Int)(p:Nat×Rec):List Value:=[.int .i64 seg,.int .i64 p.1,.int .i64 p.2.size,.int .u64 p.2.seq,.string ⟨p.2.key.toArray⟩,.string ⟨p.2.val.toArray⟩,.bool p.2.del]
theorem Z1{n off:Nat}{l:List UInt8}(h:dec (l.drop off)=none):P9 n off l=[]:=by
 cases n with
 | zero=>rfl
 | succ n=>simp[P9,h]
theorem b4W:(prog.info? 160).map (λi=>(i.zero,i.size,i.bytes))=some (some (.agg #[.int .i64 0,.int .i64 0,.int .i64 0,.int .u64 0,.string ⟨#[]⟩,.string ⟨#[]⟩,.bool false]),7,72):=by kernel_rfl
theorem c0w(seg:Int)(v:Value)(l:List UInt8)(w:World)(h:Bytes w v l)(hl:l.length<=1099511627776):
 Calls prog 61 #[.int .i64 seg,v] w λe w'=>∃u,e=.returned u/\w'.ownsRow w.heap.size 160 7 u (N7 l).length ((N7 l).flatMap (P7 seg))/\Ext w w':=by
 obtain⟨i0,hi,hz0,hz1,hz2⟩:=info_parts b4W;obtain⟨a,cap,rfl,hc1,hc2,hcell⟩:=id h;have H:=ah h;clear h hcell;go_enter func61,ntmps61
 go_wp2;go_loopw [5,6] (λu o wr=>∃(rs:List (Nat×Rec))(off n:Nat),o=.int .i64 off/\off<=l.length/\rs.length<=off/\N7 l=rs++P9 n off l/\l.length<n+off/\wr.ownsRow w.heap.size 160 7 u rs.length (rs.flatMap (P7 seg))/\Ext w wr) (λ_ o _=>l.length - (intOf o).toNat)
 case atStart=>exact⟨[],0,l.length+1,rfl,by omega,by simp,rfl,by omega,⟨rfl,Or.inl ⟨rfl,rfl⟩⟩,Ext.refl w⟩
 case round=>
  obtain⟨rs,off,n,rfl,hoff,hrs,hsc,hn,hown,hE⟩:=hrel;have hb1:=(H.out.ext hE).sliced off l.length hoff (aj _);rw[bG] at hb1;have HN:=ah hn;have ET:=ah hsc;have HO:=ah hown;have HE:=ah hE;have HB:=ah hb1;have sQ:=ah hrs;clear hn hsc hown hE hb1 hrs;go_wp2_with fail
  all_goals
   have Wi:=HB.out
   first
    | (rw[if_pos ‹cap=off›,show cap - off=0 by omega] at Wi)
    | rw[if_neg ‹¬cap=off›] at Wi
   refine(decode_any _ (l.drop off) wr Wi).mono ?_;rintro e w1 ⟨rfl,hE1⟩;clear Wi HB
   cases hd:dec (l.drop off) with
   | none=>
    have hX:o8 (w1.alloc (.cells #[.int .u64 0,.string ⟨#[]⟩,.string ⟨#[]⟩,.bool false] 111)) w1.heap.size 111 #[.int .u64 0,.string ⟨#[]⟩,.string ⟨#[]⟩,.bool false]:=o8.new _ _ rfl;have e0:=(ET.out).trans (by rw[Z1 hd,dO]);have hown:=iV.row HO.out (w1.alloc (.cells #[.int .u64 0,.string ⟨#[]⟩,.string ⟨#[]⟩,.bool false] 111)) λb hb=>(hE1.new (.cells #[.int .u64 0,.string ⟨#[]⟩,.string ⟨#[]⟩,.bool false] 111)).block b (World.ownsRow.lt HO.out b hb).2;have hE2:Ext w (w1.alloc (.cells #[.int .u64 0,.string ⟨#[]⟩,.string ⟨#[]⟩,.bool false] 111)):=(Ext.trans HE.out hE1).new _;have HOW:=ah hown;have HE2:=ah hE2;have E0:=ah e0;clear hown hE2 e0 hX hE1;unfold nK xC Z5;go_wp2_with fail
    exact bodyPost_ret (v:=u5) (by simp[results,results61]) rfl ⟨u5,rfl,by rw[E0.out];exact HOW.out,HE2.out⟩
   | some r=>
    obtain⟨hr1,hr2⟩:=Kq hd;rw[dD] at hr2
    first
    | (exfalso;omega)
    | skip
      have hn:=HN.out;obtain⟨m,rfl⟩:∃m,n=m+1:=⟨n - 1,by omega⟩;have e0:N7 l=(rs++[(off,r)])++P9 m (off+r.size) l:=by
       rw[ET.out,fH];simp[P9,hd]
      have hX:o8 (w1.alloc (.cells #[.int .u64 r.seq,.string ⟨r.key.toArray⟩,.string ⟨r.val.toArray⟩,.bool r.del] 111)) w1.heap.size 111 #[.int .u64 r.seq,.string ⟨r.key.toArray⟩,.string ⟨r.val.toArray⟩,.bool r.del]:=o8.new _ _ rfl;have hown:=iV.row HO.out (w1.alloc (.cells #[.int .u64 r.seq,.string ⟨r.key.toArray⟩,.string ⟨r.val.toArray⟩,.bool r.del] 111)) λb hb=>(hE1.new (.cells #[.int .u64 r.seq,.string ⟨r.key.toArray⟩,.string ⟨r.val.toArray⟩,.bool r.del] 111)).block b (World.ownsRow.lt HO.out b hb).2;have hE2:Ext w (w1.alloc (.cells #[.int .u64 r.seq,.string ⟨r.key.toArray⟩,.string ⟨r.val.toArray⟩,.bool r.del] 111)):=(Ext.trans HE.out hE1).new _;obtain⟨ua,uc,rfl⟩:=ownsRow_form HO.out;have hsz:w.heap.size<=(w1.alloc (.cells #[.int .u64 r.seq,.string ⟨r.key.toArray⟩,.string ⟨r.val.toArray⟩,.bool r.del] 111)).heap.size:=hE2.size;have hrl:=sQ.out;have HOW:=ah hown;have HE2:=ah hE2;have E0:=ah e0;have HX:=ah hX;have lV:=ah hE1;clear hown hE2 e0 hX hE1 HN ET HO;unfold nK
      have hsz2:w.heap.size<=w1.heap.size+2:=by have:(w1.alloc (.cells #[.int .u64 r.seq,.string ⟨r.key.toArray⟩,.string ⟨r.val.toArray⟩,.bool r.del] 111)).heap.size=w1.heap.size+1:=by simp
                                                omega
      have hnw:((w1.alloc (.cells #[.int .u64 r.seq,.string ⟨r.key.toArray⟩,.string ⟨r.val.toArray⟩,.bool r.del] 111)).alloc (.cells #[.int .i64 seg,.int .i64 off,.int .i64 r.size,.int .u64 r.seq,.string ⟨r.key.toArray⟩,.string ⟨r.val.toArray⟩,.bool r.del] 160)).heap[w1.heap.size+1]?=some (.cells #[.int .i64 seg,.int .i64 off,.int .i64 r.size,.int .u64 r.seq,.string ⟨r.key.toArray⟩,.string ⟨r.val.toArray⟩,.bool r.del] 160):=by
       have e:(w1.alloc (.cells #[.int .u64 r.seq,.string ⟨r.key.toArray⟩,.string ⟨r.val.toArray⟩,.bool r.del] 111)).heap.size=w1.heap.size+1:=by simp
       rw[<-e];exact heap_alloc_new _ _
      go_wp2_with (at_builtin;go_must (refine D8 rfl _ _ 151 rfl w.heap.size 160 i0 (.agg #[.int .i64 0,.int .i64 0,.int .i64 0,.int .u64 0,.string ⟨#[]⟩,.string ⟨#[]⟩,.bool false]) 7 72 underlying151 hi hz0 hz1 hz2 rfl (by omega) (.slice ua rs.length uc) rs.length _ rfl (World.ownsRow.alloc HOW.out (.cells #[.int .i64 seg,.int .i64 off,.int .i64 r.size,.int .u64 r.seq,.string ⟨r.key.toArray⟩,.string ⟨r.val.toArray⟩,.bool r.del] 160)) (.slice (some ⟨w1.heap.size+1,0,none⟩) 1 1) 1 [.int .i64 seg,.int .i64 off,.int .i64 r.size,.int .u64 r.seq,.string ⟨r.key.toArray⟩,.string ⟨r.val.toArray⟩,.bool r.del] rfl ⟨_,_,rfl,by omega,⟨by omega,λh=>by cases h⟩,λ_=>⟨_,rfl,World.news_of_block (cs:=#[.int .i64 seg,.int .i64 off,.int .i64 r.size,.int .u64 r.seq,.string ⟨r.key.toArray⟩,.string ⟨r.val.toArray⟩,.bool r.del]) (t:=160) (fr:=(0,0)) hnw⟩⟩ rfl (by simp[Value.oneCell']) (by unfold maxLen;omega) (by omega) (by simp;omega) ?_);intro b6 c6 w6 hown6 hgrow6 jL;have qP:=ah hown6;have qQ:=ah hgrow6;clear hown6 hgrow6 jL)
      go_roundw
      case rel=>
       refine⟨rs++[(off,r)],off+r.size,m,by go_num,by omega,by simp;omega,E0.out,by omega,?_,?_⟩
       ·have:=qP.out;rw[aC,dM];simpa [P7] using this
       ·refine Below.grown (HE2.out.new _) qQ.out (by simp;omega) (λj hj=>?_);have:=(World.ownsRow.lt HOW.out j hj).1;omega
      case measure=>simp[intOf];omega
end
section
open Go.RowKit Go.Lib Go.Maps Dk Pl
theorem b7F:Extern.find Tryz.f118=some (Extern.Atomic.loadT (.int .i64)):=by rfl
theorem LN(b:Nat)(v:Int)(t:TypeId)(w:World)(h:w.heap[b]?=some (.cells #[.int .i64 v] t)):Calls prog 64 #[.pointer (some ⟨b,0,none⟩)] w λe w'=>e=.returned (.int .i64 v)/\w'=w:=by
 have hc:w.cell? ⟨b,0,none⟩=some (.int .i64 v):=by simp[World.cell?,h]
 have hcf:=run_call_load (P:=prog) func118 (by kernel_rfl) (by kernel_rfl) (by rfl) .i64 b7F hc;go_enter func64,ntmps64
 go_wp2;go_ret;exact⟨rfl,rfl⟩
def ci(sx sb:Nat)(c0 c1 c2 c3 c4:Value)(v:Int)(al:Nat)(w:World):Exit->Act->World->Prop
 | .normal,a',w'=>a'.defers=[]/\a'.tmps.size=118/\a'.tmps[11]?=some (.pointer (some ⟨sx,0,none⟩))/\o8 w' sb 138 #[c0,c1,c2,c3,c4,.int .i64 v]/\Off sb w w'
 | _,_,_=>False
theorem t10{sx sb al:Nat}(T:Array Value)(hT:T.size=118)(h11:T[11]?=some (.pointer (some ⟨sx,0,none⟩)))(h12:T[12]?=some (.pointer (some ⟨al,0,none⟩)))(c0 c1 c2 c3 c4 c5:Value)(v:Int)(t:TypeId)(w:World)(hs:o8 w sx 32 #[.pointer (some ⟨sb,0,none⟩)])(hb:o8 w sb 138 #[c0,c1,c2,c3,c4,c5])(ha:w.heap[al]?=some (.cells #[.int .i64 v] t)):(O5 10).wp prog (ci sx sb c0 c1 c2 c3 c4 v al w) ⟨T,[]⟩ w:=by
 rw[U2 (U2 (zo T hT) (k:=11) (J3 h11)) (k:=12) (J3 h12)];generalize (λk=>T.getD k undef)=x;clear hT h11 h12;have d0:w.drew.cell? ⟨sx,0,none⟩=some (.pointer (some ⟨sb,0,none⟩)):=(hs.cell 0).trans rfl;have d1:w.drew.cell? ⟨sb,5,none⟩=some c5:=(hb.cell 5).trans rfl;have f1:w.drew.frozen? ⟨sb,5,none⟩=false:=hb.free 5;have hO:=(Off.refl sb w.drew).setCell 5 (.int .i64 v);have hB:o8 (w.drew.setCell ⟨sb,5,none⟩ (.int .i64 v)) sb 138 #[c0,c1,c2,c3,c4,.int .i64 v]:=(show o8 w.drew sb 138 #[c0,c1,c2,c3,c4,c5] from hb).set 5 (.int .i64 v);have hld:=LN al v t w.drew ha;unfold O5 I9;simp only[Code.behind,Code.head,Tryz.f14,aP,wE,up,reduceIte,Nat.reduceEqDiff];go_region_with (go_at_call 64;refine(LN al v t _ ?_).mono ?_;exact ha;rintro e w1 ⟨rfl,rfl⟩)
 all_goals
  have Oq:=(Off.refl sb w).setCell 5 (.int .i64 v);exact⟨rfl,rfl,rfl,hB,⟨Oq.os,Oq.tape,Oq.output,Oq.size,Oq.block⟩⟩
abbrev Fd:=Nat×Nat×Rec
def tl(q:Fd):Value:=.agg (P7 q.1 q.2).toArray
abbrev sO(w:World)(r:Nat)(l:List (Nm×Fd)):Prop:=MapOf prog 9 bC tl w r l
def ce(sx sb:Nat)(c0 c1 c2 c3:Value)(v:Int)(w:World):Exit->Act->World->Prop
 | .normal,a',w'=>a'.defers=[]/\a'.tmps.size=118/\a'.tmps[11]?=some (.pointer (some ⟨sx,0,none⟩))/\fA (λb=>b=sb) (λb=>b=sb) w w'/\∃r,w.heap.size<=r/\o8 w' sb 138 #[c0,c1,c2,c3,.map (some r),.int .i64 v]/\sO w' r []
 | _,_,_=>False
theorem t11{sx sb:Nat}(T:Array Value)(hT:T.size=118)(h11:T[11]?=some (.pointer (some ⟨sx,0,none⟩)))(c0 c1 c2 c3 c4:Value)(v:Int)(w:World)(hs:o8 w sx 32 #[.pointer (some ⟨sb,0,none⟩)])(hb:o8 w sb 138 #[c0,c1,c2,c3,c4,.int .i64 v]):(O5 11).wp prog (ce sx sb c0 c1 c2 c3 v w) ⟨T,[]⟩ w:=by
 rw[U2 (zo T hT) (k:=11) (J3 h11)];generalize (λk=>T.getD k undef)=x;clear hT h11;have hmm:∀w:World,(Instr.makeMap 136 (some (.int .i64 v))).run prog w=.ok (.map (some w.heap.size)) (w.alloc (.map #[] 0)):=λw=>by
  simp[Instr.makeMap,run_underlying underlying136,asInt,asIntOf,Result.andThen]
 have d0:w.drew.cell? ⟨sx,0,none⟩=some (.pointer (some ⟨sb,0,none⟩)):=(hs.cell 0).trans rfl;have d1:w.drew.cell? ⟨sb,5,none⟩=some (.int .i64 v):=(hb.cell 5).trans rfl;have d2:(w.drew.alloc (.map #[] 0)).cell? ⟨sx,0,none⟩=some (.pointer (some ⟨sb,0,none⟩)):=(World.cell?_alloc_lt _ _ _ hs.lt).trans d0;have d3:(w.drew.alloc (.map #[] 0)).cell? ⟨sb,4,none⟩=some c4:=(World.cell?_alloc_lt _ _ _ hb.lt).trans ((hb.cell 4).trans rfl);have e0:w.cell? ⟨sx,0,none⟩=some (.pointer (some ⟨sb,0,none⟩)):=d0;have e1:w.cell? ⟨sb,5,none⟩=some (.int .i64 v):=d1;have e2:(w.alloc (.map #[] 0)).drew.cell? ⟨sx,0,none⟩=some (.pointer (some ⟨sb,0,none⟩)):=d2;have e3:(w.alloc (.map #[] 0)).drew.cell? ⟨sb,4,none⟩=some c4:=d3;have hbn:o8 (w.alloc (.map #[] 0)) sb 138 #[c0,c1,c2,c3,c4,.int .i64 v]:=hb.alloc _;have f1:(w.alloc (.map #[] 0)).drew.frozen? ⟨sb,4,none⟩=false:=hbn.free 4;have f2:(w.drew.alloc (.map #[] 0)).frozen? ⟨sb,4,none⟩=false:=hbn.free 4;unfold O5 I9;simp only[Code.behind,Code.head,Tryz.f14,aP,wE,up,reduceIte,Nat.reduceEqDiff];go_region
 have hO:=(Off.refl sb (w.alloc (.map #[] 0))).setCell 4 (.map (some w.heap.size));have hC:fA (λb=>b=sb) (λb=>b=sb) w ((w.alloc (.map #[] 0)).setCell ⟨sb,4,none⟩ (.map (some w.heap.size))):=(fA.ext ((Ext.refl w).new _)).trans (fA.off hO rfl);have hM:sO ((w.alloc (.map #[] 0)).setCell ⟨sb,4,none⟩ (.map (some w.heap.size))) w.heap.size []:=(MapOf.made w).off hO (by have:=hb.lt;omega);exact⟨rfl,rfl,rfl,⟨hC.os,hC.tape,hC.output,hC.size,hC.block,hC.grow⟩,w.heap.size,aj _,hbn.set 4 _,hM⟩
end
section
open Go.RowKit Pl
def oG(w:World)(e:TypeId)(size:Nat)(v:Value)(n:Nat)(xs:List Value):Prop:=
 xs.length=n*size/\((v=.slice none 0 0/\n=0)\/∃g cap cur fr,v=.slice (some ⟨g,0,none⟩) n cap/\w.heap[g]?=some (.cells cur e fr)/\n<=cap/\cap<=maxLen/\cur.size=cap*size/\cur.toList.take (n*size)=xs)
theorem oG.slice{w:World}{e:TypeId}{size:Nat}{v:Value}{n:Nat}{xs:List Value}(h:oG w e size v n xs):∃a c,v=.slice a n c:=by
 rcases h.2 with⟨rfl,rfl⟩|⟨g,cap,cur,fr,rfl,_⟩
 ·exact⟨none,0,rfl⟩
 ·exact⟨_,_,rfl⟩
theorem oG.keep{w w':World}{e:TypeId}{size:Nat}{v:Value}{n:Nat}{xs:List Value}(h:oG w e size v n xs)(he:∀g,v.ownBlock=some g->w'.heap[g]?=w.heap[g]?):oG w' e size v n xs:=by
 refine⟨h.1,?_⟩;rcases h.2 with h|⟨g,cap,cur,fr,rfl,h2,h3⟩
 ·exact .inl h
 ·exact .inr ⟨g,cap,cur,fr,rfl,(he g rfl).trans h2,h3⟩
end
section
open Go.RowKit Go.Lib Go.Maps Dk Pl
def CQ(seg:Nat)(l:List (Nat×Rec))(m:List (Nm×Fd)):List (Nm×Fd):=l.foldl (λm p=>kU m p.2.key (seg,p)) m
theorem b3B(seg:Nat)(l:List (Nat×Rec))(p:Nat×Rec)(m:List (Nm×Fd)):CQ seg (l++[p]) m=kU (CQ seg l m) p.2.key (seg,p):=by simp[CQ]
def U7(bss:List (List UInt8)):Nat->List (Nm×Fd)
 | 0=>[]
 | k+1=>CQ k (N7 (bss.getD k [])) (U7 bss k)
def z_(w:World)(Cb n:Nat)(ids:List Int)(bss:List (List UInt8)):Prop:=
 ∀i,i<n->w.cell? ⟨Cb,2*i,none⟩=some (.int .i64 (ids.getD i 0))/\∃u,w.cell? ⟨Cb,2*i+1,none⟩=some u/\oG w 160 7 u (N7 (bss.getD i [])).length ((N7 (bss.getD i [])).flatMap (P7 i))
theorem cell_lt{w:World}{a:Addr}{v:Value}(h:w.cell? a=some v):a.block<w.heap.size:=by
 unfold World.cell? at h
 cases e:w.heap[a.block]? with
 | none=>rw[e] at h;cases h
 | some o=>exact lt_of_block e
theorem oG.lt{w:World}{e:TypeId}{size:Nat}{v:Value}{n:Nat}{xs:List Value}(h:oG w e size v n xs){g:Nat}(hg:v.ownBlock=some g):g<w.heap.size:=by
 rcases h.2 with⟨rfl,_⟩|⟨g',cap,cur,fr,rfl,h2,_⟩
 ·cases hg
 ·obtain rfl:g'=g:=by simpa [Value.ownBlock] using hg
  exact lt_of_block h2
theorem oG.Fp{w:World}{e:TypeId}{size:Nat}{v:Value}{n:Nat}{xs:List Value}(h:oG w e size v n xs){g r:Nat}(hg:v.ownBlock=some g){es:Array MapEntry}{c:Nat}(hr:w.heap[r]?=some (.map es c)):g≠r:=by
 rintro rfl;rcases h.2 with⟨rfl,_⟩|⟨g',cap,cur,fr,rfl,h2,_⟩
 ·cases hg
 ·obtain rfl:g'=g:=by simpa [Value.ownBlock] using hg
  rw[hr] at h2;cases h2
theorem oG.rec{w:World}{seg:Int}{u:Value}{l:List (Nat×Rec)}(h:oG w 160 7 u l.length (l.flatMap (P7 seg))){j:Nat}(hj:j<l.length):
 ∃g cap,u=.slice (some ⟨g,0,none⟩) l.length cap/\l.length<=cap/\g<w.heap.size/\∀c x,(P7 seg l[j])[c]?=some x->w.cell? ⟨g,j*7+c,none⟩=some x:=by
 rcases h.2 with⟨_,h0⟩|⟨g,cap,cur,fr,rfl,hg,h1,h2,h3,h4⟩
 ·omega
 ·refine⟨g,cap,rfl,h1,lt_of_block hg,λc x hx=>?_⟩;have hc:c<7:=by
   have:=(aT.1 hx).1;simpa [P7] using this
  have hlt:j*7+c<l.length*7:=by omega
  have e1:(l.flatMap (P7 seg))[j*7+c]?=some x:=by
   rw[<-hx];clear h h4 hx hg h3
   induction l generalizing j with
   | nil=>simp at hj
   | cons p l ih=>
    rw[iW]
    cases j with
    | zero=>
     rw[bH (by simp[P7];omega)]
     simp
    | succ j=>
     rw[bF (by simp[P7];omega)];have e:(j+1)*7+c - (P7 seg p).length=j*7+c:=by simp[P7];omega
     rw[e];simp only[bV] at hj hlt;rw[ih (by omega) (by simp only[bV] at h1;omega) (by omega)];simp
  rw[<-h4,dA,if_pos hlt,dG] at e1;simp[World.cell?,hg,e1]
end
section
open Go.RowKit Go.Lib Go.Maps Dk Pl
def ca(sx r:Nat)(bss:List (List UInt8))(n:Nat)(w:World):Exit->Act->World->Prop
 | .normal,a',w'=>a'.defers=[]/\a'.tmps.size=118/\a'.tmps[11]?=some (.pointer (some ⟨sx,0,none⟩))/\fA (λb=>b=r) (λb=>b=r) w w'/\sO w' r (U7 bss n)
 | _,_,_=>False
theorem Av{F:Nat->Prop}{w w':World}(h:fA F F w w')(o:Obj):fA F F w (w'.alloc o):=h.trans (fA.ext ((Ext.refl w').new o))
theorem Ao{F:Nat->Prop}{w w':World}{n:Nat}{t:TypeId}{cs:Array Value}(h:fA F F w w')(hb:o8 w n t cs)(hF:¬F n):o8 w' n t cs:=(h.block n hb.lt hF).trans hb
theorem b2l:∀(n off:Nat)(l:List UInt8),∀p∈P9 n off l,p.2.key.length<=16:=by
 intro n
 induction n with
 | zero=>intro off l p hp;cases hp
 | succ n ih=>
  intro off l p hp;unfold P9 at hp
  cases hd:dec (l.drop off) with
  | none=>rw[hd] at hp;cases hp
  | some r=>
   rw[hd] at hp;rcases aY.1 hp with rfl|hp
   ·unfold dec at hd;split at hd
    ·rename_i hg;injection hd with hd;subst hd;unfold good at hg;simp only[aH,dQ] at hg;have:=hg.2.2.2.1;show(List.take _ _).length<=16;rw[bD];omega
    ·cases hd
   ·exact ih _ _ p hp
theorem b7G(l:List UInt8):∀p∈N7 l,p.2.key.length<=16:=b2l _ _ _
theorem t12{sx sb Cb r n n':Nat}(T:Array Value)(hT:T.size=118)(h11:T[11]?=some (.pointer (some ⟨sx,0,none⟩)))(c0 c1 c2 c5:Value)(ids:List Int)(bss:List (List UInt8))(w:World)(hs:o8 w sx 32 #[.pointer (some ⟨sb,0,none⟩)])(hb:o8 w sb 138 #[c0,c1,c2,.slice (some ⟨Cb,0,none⟩) n n',.map (some r),c5])
 (hn:n<=n'/\n<=1000000)(hS:z_ w Cb n ids bss)(hM:sO w r [])(hrs:r≠sx/\r≠sb):(O5 12).wp prog (ca sx r bss n w) ⟨T,[]⟩ w:=by
 rw[U2 (zo T hT) (k:=11) (J3 h11)];generalize (λk=>T.getD k undef)=x;clear hT h11;have d0:w.cell? ⟨sx,0,none⟩=some (.pointer (some ⟨sb,0,none⟩)):=(hs.cell 0).trans rfl;have d1:w.cell? ⟨sb,3,none⟩=some (.slice (some ⟨Cb,0,none⟩) n n'):=(hb.cell 3).trans rfl;have HS:=ah hS;have HM:=ah hM;have HSX:=ah hs;have VO:=ah hb;clear hS hM hs hb;unfold O5 I9;simp only[Code.behind,Code.head,Tryz.f14,aP,wE,up,reduceIte,Nat.reduceEqDiff];go_wp2;go_loopw [96] (λi wr=>∃k:Nat,i=.int .i64 k/\k<=n/\fA (λb=>b=r) (λb=>b=r) w wr/\sO wr r (U7 bss k)) (λi _=>n - (intOf i).toNat)
 case atStart=>exact⟨0,rfl,by omega,.refl _ w,HM.out⟩
 case round=>
  obtain⟨k,rfl,hk,hC,hM⟩:=hrel;by_cases hlt:k<n
  ·obtain⟨es,ck,hes,-⟩:=HM.out;obtain⟨s1,u,s2,hrow⟩:=HS.out k hlt;obtain⟨ua,uc,rfl⟩:=hrow.slice;have OH:=cell_lt s1;have OJ:Cb≠r:=by
    rintro rfl;simp[World.cell?,hes] at s1
   have s1':wr.cell? ⟨Cb,k*2,none⟩=some (.int .i64 (ids.getD k 0)):=by rw[oh];exact(World.cell?_of_block (hC.block Cb OH OJ)).trans s1
   have s2':wr.cell? ⟨Cb,k*2+1,none⟩=some (.slice ua (N7 (bss.getD k [])).length uc):=by rw[oh];exact(World.cell?_of_block (hC.block Cb OH OJ)).trans s2
   have hki:(k:Int)<(n:Int):=by omega
   have oY:(N7 (bss.getD k [])).length<=maxLen:=by
    rcases hrow.2 with⟨_,h⟩|⟨g,cap,cur,fr,hv,_,h1,h2,_⟩
    ·rw[h];exact bU _
    ·exact ay h1 h2
   unfold maxLen at oY;obtain⟨L,hL⟩:∃L,N7 (bss.getD k [])=L:=⟨_,rfl⟩;have hkey:∀p∈L,p.2.key.length<=16:=λp hp=>b7G _ p (hL▸hp);have hnext:U7 bss (k+1)=CQ k L (U7 bss k):=by rw[<-hL];rfl
   rw[hL] at hrow s2' oY;have HR:=ah hrow;have HC:=ah hC;have fR:=ah hM;have HES:=ah hes;have HKEY:=ah hkey;have fL:=ah hnext;clear hrow hC hM s1 s2 hes hkey hnext hL;go_wp2_with fail
   go_loopw [103] (λj wi=>∃m:Nat,j=.int .i64 m/\m<=L.length/\fA (λb=>b=r) (λb=>b=r) w wi/\sO wi r (CQ k (L.take m) (U7 bss k))) (λj _=>L.length - (intOf j).toNat)
   case atStart=>exact⟨0,rfl,by omega,Av HC.out _,(fR.out).ext ((Ext.refl wr).new _)⟩
   case round=>
    rename World=>wi
    obtain⟨m,rfl,hm,Gu,Ov⟩:=hrel;by_cases hml:m<L.length
    ·obtain⟨g,cap,hu,hcap,hgl,hcells⟩:=oG.rec (HR.out.keep λg hg=>Gu.block g (HR.out.lt hg) (HR.out.Fp hg HES.out)) hml;injection hu with h1 h2 h3;subst h1;subst h3;have nF:(m:Int)<(L.length:Int):=by omega
     have q0:=hcells 0 _ rfl;have q1:=hcells 1 _ rfl;have q2:=hcells 2 _ rfl;have q3:=hcells 3 _ rfl;have q4:=hcells 4 _ rfl;have q5:=hcells 5 _ rfl;have q6:=hcells 6 _ rfl;rw[jw] at q0;have hkl:=HKEY.out _ (fE hml);have hbx:o8 (wi.alloc (.cells #[.int .i64 k,.int .i64 L[m].1,.int .i64 L[m].2.size,.int .u64 L[m].2.seq,.string ⟨L[m].2.key.toArray⟩,.string ⟨L[m].2.val.toArray⟩,.bool L[m].2.del] 160)) wi.heap.size 160 #[.int .i64 k,.int .i64 L[m].1,.int .i64 L[m].2.size,.int .u64 L[m].2.seq,.string ⟨L[m].2.key.toArray⟩,.string ⟨L[m].2.val.toArray⟩,.bool L[m].2.del]:=o8.new _ _ rfl;have hsx:=(Ao Gu HSX.out (bP hrs.1)).alloc (.cells #[.int .i64 k,.int .i64 L[m].1,.int .i64 L[m].2.size,.int .u64 L[m].2.seq,.string ⟨L[m].2.key.toArray⟩,.string ⟨L[m].2.val.toArray⟩,.bool L[m].2.del] 160);have hsb:=(Ao Gu VO.out (bP hrs.2)).alloc (.cells #[.int .i64 k,.int .i64 L[m].1,.int .i64 L[m].2.size,.int .u64 L[m].2.seq,.string ⟨L[m].2.key.toArray⟩,.string ⟨L[m].2.val.toArray⟩,.bool L[m].2.del] 160);have a0:(wi.alloc (.cells #[.int .i64 k,.int .i64 L[m].1,.int .i64 L[m].2.size,.int .u64 L[m].2.seq,.string ⟨L[m].2.key.toArray⟩,.string ⟨L[m].2.val.toArray⟩,.bool L[m].2.del] 160)).drew.cell? ⟨sx,0,none⟩=some (.pointer (some ⟨sb,0,none⟩)):=(hsx.cell 0).trans rfl;have a1:(wi.alloc (.cells #[.int .i64 k,.int .i64 L[m].1,.int .i64 L[m].2.size,.int .u64 L[m].2.seq,.string ⟨L[m].2.key.toArray⟩,.string ⟨L[m].2.val.toArray⟩,.bool L[m].2.del] 160)).drew.cell? ⟨sb,4,none⟩=some (.map (some r)):=(hsb.cell 4).trans rfl;have b0:(wi.alloc (.cells #[.int .i64 k,.int .i64 L[m].1,.int .i64 L[m].2.size,.int .u64 L[m].2.seq,.string ⟨L[m].2.key.toArray⟩,.string ⟨L[m].2.val.toArray⟩,.bool L[m].2.del] 160)).drew.cell? ⟨wi.heap.size,0,none⟩=some (.int .i64 k):=(hbx.cell 0).trans rfl;have b1:(wi.alloc (.cells #[.int .i64 k,.int .i64 L[m].1,.int .i64 L[m].2.size,.int .u64 L[m].2.seq,.string ⟨L[m].2.key.toArray⟩,.string ⟨L[m].2.val.toArray⟩,.bool L[m].2.del] 160)).drew.cell? ⟨wi.heap.size,1,none⟩=some (.int .i64 L[m].1):=(hbx.cell 1).trans rfl;have b2:(wi.alloc (.cells #[.int .i64 k,.int .i64 L[m].1,.int .i64 L[m].2.size,.int .u64 L[m].2.seq,.string ⟨L[m].2.key.toArray⟩,.string ⟨L[m].2.val.toArray⟩,.bool L[m].2.del] 160)).drew.cell? ⟨wi.heap.size,2,none⟩=some (.int .i64 L[m].2.size):=(hbx.cell 2).trans rfl;have b3:(wi.alloc (.cells #[.int .i64 k,.int .i64 L[m].1,.int .i64 L[m].2.size,.int .u64 L[m].2.seq,.string ⟨L[m].2.key.toArray⟩,.string ⟨L[m].2.val.toArray⟩,.bool L[m].2.del] 160)).drew.cell? ⟨wi.heap.size,3,none⟩=some (.int .u64 L[m].2.seq):=(hbx.cell 3).trans rfl;have b4:(wi.alloc (.cells #[.int .i64 k,.int .i64 L[m].1,.int .i64 L[m].2.size,.int .u64 L[m].2.seq,.string ⟨L[m].2.key.toArray⟩,.string ⟨L[m].2.val.toArray⟩,.bool L[m].2.del] 160)).drew.cell? ⟨wi.heap.size,4,none⟩=some (.string ⟨L[m].2.key.toArray⟩):=(hbx.cell 4).trans rfl;have b5:(wi.alloc (.cells #[.int .i64 k,.int .i64 L[m].1,.int .i64 L[m].2.size,.int .u64 L[m].2.seq,.string ⟨L[m].2.key.toArray⟩,.string ⟨L[m].2.val.toArray⟩,.bool L[m].2.del] 160)).drew.cell? ⟨wi.heap.size,5,none⟩=some (.string ⟨L[m].2.val.toArray⟩):=(hbx.cell 5).trans rfl;have b6:(wi.alloc (.cells #[.int .i64 k,.int .i64 L[m].1,.int .i64 L[m].2.size,.int .u64 L[m].2.seq,.string ⟨L[m].2.key.toArray⟩,.string ⟨L[m].2.val.toArray⟩,.bool L[m].2.del] 160)).drew.cell? ⟨wi.heap.size,6,none⟩=some (.bool L[m].2.del):=(hbx.cell 6).trans rfl;have hM2:sO (wi.alloc (.cells #[.int .i64 k,.int .i64 L[m].1,.int .i64 L[m].2.size,.int .u64 L[m].2.seq,.string ⟨L[m].2.key.toArray⟩,.string ⟨L[m].2.val.toArray⟩,.bool L[m].2.del] 160)).drew r (CQ k (L.take m) (U7 bss k)):=Ov.ext (Below.drew ((Ext.refl wi).new _));obtain⟨w3,hrun,hN3,hO3⟩:=hM2.store EH Ag underlying136 (Et (l:=L[m].2.key) (by unfold maxLen;omega)) ((k,L[m]):Fd);have hrun3:(Instr.mapUpdate 136 (.map (some r)) (.string ⟨L[m].2.key.toArray⟩) (.agg #[.int .i64 k,.int .i64 L[m].1,.int .i64 L[m].2.size,.int .u64 L[m].2.seq,.string ⟨L[m].2.key.toArray⟩,.string ⟨L[m].2.val.toArray⟩,.bool L[m].2.del])).run prog (wi.alloc (.cells #[.int .i64 k,.int .i64 L[m].1,.int .i64 L[m].2.size,.int .u64 L[m].2.seq,.string ⟨L[m].2.key.toArray⟩,.string ⟨L[m].2.val.toArray⟩,.bool L[m].2.del] 160)).drew=.ok () w3:=hrun;have hput:CQ k (L.take (m+1)) (U7 bss k)=kU (CQ k (L.take m) (U7 bss k)) L[m].2.key (k,L[m]):=by
      rw[take_snoc L m hml,b3B]
     have hCW:fA (λb=>b=r) (λb=>b=r) w (wi.alloc (.cells #[.int .i64 k,.int .i64 L[m].1,.int .i64 L[m].2.size,.int .u64 L[m].2.seq,.string ⟨L[m].2.key.toArray⟩,.string ⟨L[m].2.val.toArray⟩,.bool L[m].2.del] 160)).drew:=by
      have:=Av Gu (.cells #[.int .i64 k,.int .i64 L[m].1,.int .i64 L[m].2.size,.int .u64 L[m].2.seq,.string ⟨L[m].2.key.toArray⟩,.string ⟨L[m].2.val.toArray⟩,.bool L[m].2.del] 160);exact⟨this.os,this.tape,this.output,this.size,this.block,this.grow⟩
     have mD:=hCW.trans (fA.off hO3 rfl);have zO:=ah hN3;have oN:=ah mD;have ft:=ah hput;clear hN3 hO3 mD hCW hput hM2 hsx hsb hbx hrun Gu Ov hcells;go_wp2_with fail
     go_region
     all_goals
      go_wp2;go_roundw
      case rel=>exact⟨m+1,by go_num,by omega,oN.out,by rw[ft.out];exact zO.out⟩
      case measure=>simp[intOf];omega
    ·obtain rfl:m=L.length:=by omega
     rw[bG,<-fL.out] at Ov;have HCI:=ah Gu;have HMI:=ah Ov;clear Gu Ov;go_wp2;go_roundw
     case rel=>exact⟨k+1,by go_num,by omega,HCI.out,HMI.out⟩
     case measure=>simp[intOf];omega
  ·obtain rfl:k=n:=by omega
   have HC:=ah hC;have fR:=ah hM;clear hC hM;go_wp2;exact⟨rfl,rfl,rfl,HC.out,fR.out⟩
end
section
open Go.RowKit Go.Lib Go.Maps Dk Pl
def b8(sb:Nat)(w:World):Exit->Act->World->Prop
 | .ret,a',w'=>a'.defers=[]/\a'.tmps[2]?=some (.pointer (some ⟨sb,0,none⟩))/\a'.tmps[3]?=some .nilIface/\w'=w
 | _,_,_=>False
theorem t13{sx sb:Nat}(T:Array Value)(hT:T.size=118)(h11:T[11]?=some (.pointer (some ⟨sx,0,none⟩)))(w:World)(hs:o8 w sx 32 #[.pointer (some ⟨sb,0,none⟩)]):(I9 13).wp prog (b8 sb w) ⟨T,[]⟩ w:=by
 rw[U2 (zo T hT) (k:=11) (J3 h11)];generalize (λk=>T.getD k undef)=x;clear hT h11;have d0:w.cell? ⟨sx,0,none⟩=some (.pointer (some ⟨sb,0,none⟩)):=(hs.cell 0).trans rfl;unfold I9;simp only[Code.behind,Code.head,Tryz.f14,aP,wE,up,reduceIte,Nat.reduceEqDiff];go_wp2;exact⟨rfl,rfl,rfl,rfl⟩
end
end Go.Proofs.YtgpbhjjajpbeeaaGreatDoor
