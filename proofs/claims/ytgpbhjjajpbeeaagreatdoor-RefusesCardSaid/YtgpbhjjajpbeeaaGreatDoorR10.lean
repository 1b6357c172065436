/- A part of what the last file proves. -/
import Derived.Test.YtgpbhjjajpbeeaaGreatDoorR09
set_option linter.all false
set_option maxHeartbeats 4000000
namespace Go.Zn
section
variable{Z:Zone}{P:Program}
theorem c0E(hP:POK Z P)(t:TypeId):Sf Z P (VP Z) (Instr.alloc t true (.tuple #[])):=by
 unfold Instr.alloc;exact Sf.bind (S9 hP t) fun z hz=>Sf.bind (a1W _ hz) fun a ha=>Sf.pure (.ptr _ ha)
theorem c4a(t:TypeId){v:Value}(h:VP Z v):Sf Z P (VP Z) (Instr.box t v):=Sf.bind (a1W _ h) fun a ha=>Sf.pure (.ptr _ ha)
theorem c0F(off:Nat)(l:List (Value×Nat))(h:∀x∈l,VP Z x.1):∀c:Array Value,AP Z c->AP Z (l.foldl (fun cs(x:Value×Nat)=>cs.setIfInBounds (off+x.2) x.1) c):=by
 induction l with
 | nil=>intro c hc;exact hc
 | cons x l ih=>intro c hc;exact ih (fun y hy=>h y (by simp[hy])) _ (hc.set _ (h x (by simp)))
theorem a7T(place:Nat->Option (Nat×Nat)):∀(l:List (Nat×Value))(c d:Array Value),(∀x∈l,VP Z x.2)->AP Z c->Instr.fill place c l=some d->AP Z d:=by
 intro l
 induction l with
 | nil=>intro c d _ hc h;injection h with h;exact h▸hc
 | cons x l ih=>
  intro c d hl hc h;obtain⟨i,v⟩:=x;unfold Instr.fill at h;split at h
  ·cases h
  ·split at h
   ·cases h
   ·refine ih _ _ (fun y hy=>hl y (by simp[hy])) ?_ h;rw[<-Array.foldl_toList,Array.toList_zipIdx];refine c0F _ _ (fun y hy=>?_) c hc;obtain⟨y1,y2⟩:=y;have hv:VP Z v:=hl (i,v) (by simp);have:=List.mem_zipIdx hy;exact hv.cells.list y1 (this.2.2▸List.getElem_mem _)
theorem c0G(hP:POK Z P)(t:TypeId){parts:Array (Nat×Value)}(h:∀x∈parts,VP Z x.2):Sf Z P (VP Z) (Instr.build t parts):=by
 unfold Instr.build;refine Sf.bind (S9 hP t) fun z hz=>?_;dsimp only;refine Sf.bind (o6 t) fun d _=>?_;have hl:∀x∈parts.toList,VP Z x.2:=fun x hx=>h x (by simpa using hx);split
 ·refine Sf.bind (b50 (I:=fun _=>True) _ _ fun f _=>Sf.bind (J4 _) fun _ _=>Sf.pure trivial) fun places _=>?_;split
  ·rename_i e;exact Sf.pure (.agg _ (a7T _ _ _ _ hl hz.cells e))
  ·exact l7 _
 ·refine Sf.bind (J4 _) fun size _=>?_;split
  ·rename_i e;exact Sf.pure (.agg _ (a7T _ _ _ _ hl hz.cells e))
  ·exact l7 _
 ·exact l7 _
theorem b40:VP Z (default:Value):=.bool _
theorem a4w{c:Array Value}(h:AP Z c)(n:Nat):AP Z ((Array.range n).map (c[· % c.size]!)):=by
 intro x hx;obtain⟨i,hi,rfl⟩:=Array.mem_map.1 hx;by_cases hlt:i%c.size<c.size
 ·rw[getElem!_pos c (i%c.size) hlt];exact h _ (Array.getElem_mem _)
 ·rw[getElem!_neg c (i%c.size) hlt];exact b40
theorem a9F(hP:POK Z P)(t:TypeId)(len:Nat){parts:Array (Nat×Value)}(h:∀x∈parts,VP Z x.2):Sf Z P (VP Z) (Instr.buildSlice t len parts):=by
 unfold Instr.buildSlice;refine Sf.bind (o6 t) fun d _=>?_;have hl:∀x∈parts.toList,VP Z x.2:=fun x hx=>h x (by simpa using hx);split
 ·refine Sf.bind (J4 _) fun size _=>?_;dsimp only;split
  ·exact H7 _ trivial
  ·split
   ·refine Sf.bind (R:=AP Z) (Sf.pure AP.nil) fun z hz=>?_;split
    ·rename_i e;exact Sf.bind (Z7 _ (a7T _ _ _ _ hl (a4w hz _) e)) fun a ha=>Sf.pure (.slice _ _ _ ha)
    ·exact l7 _
   ·refine Sf.bind (S9 hP _) fun v hv=>Sf.bind (R:=AP Z) (Sf.pure hv.cells) fun z hz=>?_;split
    ·rename_i e;exact Sf.bind (Z7 _ (a7T _ _ _ _ hl (a4w hz _) e)) fun a ha=>Sf.pure (.slice _ _ _ ha)
    ·exact l7 _
 ·exact l7 _
theorem b7N(t:TypeId){a:Value}(h:VP Z a):Sf Z P (VP Z) (Instr.loadAt t a):=Sf.bind (a1C h) fun _ ha=>a0u t ha
theorem b41(t:TypeId){a v:Value}(h:VP Z a)(hv:VP Z v):Sf Z P (fun _=>True) (Instr.storeAt t a v):=Sf.bind (a1C h) fun _ ha=>a7i t ha hv
theorem b42(s:TypeId){a:Value}(h:VP Z a)(f:Nat):Sf Z P (VP Z) (Instr.fieldAt s a f):=by
 unfold Instr.fieldAt;refine Sf.bind (o6 s) fun d _=>?_;split
 ·split
  ·exact Sf.bind (a1C h) fun a ha=>Sf.bind (a2G ha _) fun b hb=>Sf.pure (.ptr _ hb)
  ·exact l7 _
 ·exact l7 _
theorem b43(hP:POK Z P)(t:TypeId){x:Value}(h:VP Z x)(i:Value):Sf Z P (VP Z) (Instr.indexAt t x i):=by
 unfold Instr.indexAt;refine Sf.bind (a3s i) fun ki _=>?_;obtain⟨k,i⟩:=ki;dsimp only;refine Sf.bind (o6 t) fun d _=>?_;split
 ·refine Sf.bind (a1C h) fun a ha=>Sf.bind (R:=fun r:Option Addr×Nat×TypeId=>∀a,r.1=some a->Z.D a.block) (Sf.pure (by rintro _ ⟨⟩;exact ha)) fun r hr=>Sf.bind (o6 t) fun d _=>?_;split
  ·rename_i e;split
   ·exact Sf.bind (J4 _) fun n _=>Sf.pure (.ptr _ (by rw[add_block];exact hr _ e))
   ·repeat' first|exact H7 _ trivial|exact X0 hP _ _ _ _|split
  ·exact X0 hP _ _ _ _
 ·refine Sf.bind (R:=fun r:Option Addr×Nat×TypeId=>∀a,r.1=some a->Z.D a.block) (Sf.pure (by
   rename_i base len c
   cases h with
   | snil=>simp
   | slice a _ _ ha=>rintro _ ⟨⟩;exact ha)) fun r hr=>Sf.bind (o6 t) fun d _=>?_
  split
  ·rename_i e;split
   ·exact Sf.bind (J4 _) fun n _=>Sf.pure (.ptr _ (by rw[add_block];exact hr _ e))
   ·repeat' first|exact H7 _ trivial|exact X0 hP _ _ _ _|split
  ·exact X0 hP _ _ _ _
 ·exact l7 _
theorem a9G(hP:POK Z P)(x:Value)(y:Nat)(c:BoundsCode):Sf Z P (fun _=>True) (Instr.sliceBound x y c):=by
 unfold Instr.sliceBound;refine Sf.bind (a3s x) fun ki _=>?_;obtain⟨k,i⟩:=ki;dsimp only;split
 ·exact Sf.pure trivial
 ·exact X0 hP _ _ _ _
theorem a08(hP:POK Z P)(s:Bool)(len cap:Nat)(low high max:Option Value):Sf Z P (fun _=>True) (Instr.sliceBounds s len cap low high max):=by
 unfold Instr.sliceBounds;dsimp only
 repeat' first
  | with_reducible exact Sf.pure trivial
  | with_reducible refine Sf.bind (a9G hP _ _ _) fun _ _=>?_
  | with_reducible refine Sf.bind (R:=fun _=>True) (Sf.pure trivial) fun _ _=>?_
  | with_reducible refine Sf.bind (R:=fun _=>True) (l7 _) fun _ _=>?_
  | split
theorem c0H(hP:POK Z P)(t:TypeId){x:Value}(hx:VP Z x)(low high max:Option Value):Sf Z P (VP Z) (Instr.slice t x low high max):=by
 unfold Instr.slice;refine Sf.bind (o6 t) fun d _=>?_;split
 ·rename_i s;have main:Sf Z P (VP Z) (do let (l,h,_) <-Instr.sliceBounds false s.size s.size low high none;pure (.string (s.extract l h))):=Sf.bind (a08 hP _ _ _ _ _ _) fun r _=>Sf.pure (.string _);split
  ·exact l7 _
  ·exact main
 ·refine Sf.bind (a08 hP _ _ _ _ _ _) fun r _=>?_;obtain⟨l,h,m⟩:=r;refine Sf.bind (J4 _) fun n _=>Sf.pure ?_
  cases hx with
  | snil=>split<;>exact .snil _ _
  | slice a _ _ ha=>
   split
   ·exact .slice _ _ _ ha
   ·exact .slice _ _ _ (by rw[add_block];exact ha)
 ·refine Sf.bind (a1X hP hx) fun a ha=>Sf.bind (o6 _) fun d _=>?_;split
  ·refine Sf.bind (a08 hP _ _ _ _ _ _) fun r _=>?_;obtain⟨l,h,m⟩:=r;refine Sf.bind (J4 _) fun n _=>Sf.pure (.slice _ _ _ ?_);split
   ·exact ha
   ·rw[add_block];exact ha
  ·exact l7 _
 ·exact l7 _
theorem b44(hP:POK Z P)(t:TypeId){x:Value}(hx:VP Z x)(low high max:Option Value):Sf Z P (VP Z) (Instr.sliceAt t x low high max):=by
 unfold Instr.sliceAt;refine Sf.bind (o6 t) fun d _=>?_;split
 ·refine Sf.bind (a1C hx) fun a ha=>Sf.bind (a08 hP _ _ _ _ _ _) fun r _=>?_;obtain⟨l,h,m⟩:=r;refine Sf.bind (J4 _) fun n _=>Sf.pure (.slice _ _ _ ?_);split
  ·exact ha
  ·rw[add_block];exact ha
 ·exact c0H hP t hx _ _ _
theorem a6G(t:TypeId)(ht:Z.T t){v:Value}(h:VP Z v):Sf Z P (VP Z) (Instr.makeInterface t v):=by
 unfold Instr.makeInterface;refine Sf.bind (o6 t) fun d _=>?_;split
 ·exact l7 _
 ·exact Sf.pure (.iface _ _ ht h)
theorem b3q{fn:Fn}(hf:FnP Z fn){a b:Array Value}(ha:AP Z a)(hb:AP Z b):Sf Z P (VP Z) (Instr.makeFunc fn a b):=Sf.pure (.func _ _ _ hf ha hb)
theorem b45(t:TypeId)(r:Option Value):Sf Z P (VP Z) (Instr.makeMap t r):=by
 unfold Instr.makeMap;have rest:Sf Z P (VP Z) (do pure (.map (some (<-newObj (.map #[] 0))))):=Sf.bind (V8 (.map _ _ (by simp))) fun r hr=>Sf.pure (.map _ hr);split
 ·refine Sf.bind (o6 t) fun d _=>?_;split
  ·exact Sf.bind (a1B _) fun _ _=>rest
  ·exact l7 _
 ·exact rest
theorem b1P(hP:POK Z P)(t:TypeId)(l c:Value):Sf Z P (VP Z) (Instr.makeSlice t l c):=by
 unfold Instr.makeSlice;refine Sf.bind (o6 t) fun d _=>?_;split
 ·refine Sf.bind (a1B _) fun len _=>Sf.bind (a1B _) fun cap _=>Sf.bind (I8 _) fun i _=>?_;dsimp only
  repeat' first
   | with_reducible exact Sf.bind (Z7 _ (a4w (by assumption) _)) fun a ha=>Sf.pure (.slice _ _ _ ha)
   | with_reducible refine Sf.bind (R:=fun _=>True) (o9 hP _) fun _ _=>?_
   | with_reducible refine Sf.bind (L8 _) fun _ _=>?_
   | with_reducible refine Sf.bind (a3q _) fun _ _=>?_
   | with_reducible refine Sf.bind (J4 _) fun _ _=>?_
   | with_reducible refine Sf.bind (S9 hP _) fun v hv=>Sf.bind (R:=AP Z) (Sf.pure hv.cells) fun z hz=>?_
   | with_reducible refine Sf.bind (R:=AP Z) (Sf.pure AP.nil) fun z hz=>?_
   | split
 ·exact l7 _
theorem c0I(t:TypeId){x:Value}(h:VP Z x)(f:Nat):Sf Z P (VP Z) (Instr.field t x f):=by
 unfold Instr.field;refine Sf.bind (o6 t) fun d _=>?_;split
 ·split
  ·exact Sf.bind (c0C h) fun c hc=>a0n _ hc _
  ·exact l7 _
 ·exact l7 _
theorem c0J(hP:POK Z P)(t:TypeId){x:Value}(h:VP Z x)(i:Value):Sf Z P (VP Z) (Instr.index t x i):=by
 unfold Instr.index;refine Sf.bind (a3s i) fun ki _=>?_;obtain⟨k,i⟩:=ki;dsimp only;refine Sf.bind (o6 t) fun d _=>?_;split
 ·split
  ·cases h with
   | agg c hc=>exact Sf.bind (J4 _) fun _ _=>a0n _ hc _
  ·exact X0 hP _ _ _ _
 ·split
  ·exact Sf.pure (.int _ _)
  ·exact X0 hP _ _ _ _
 ·exact l7 _
theorem b46{x:Value}(h:VP Z x)(i:Nat):Sf Z P (VP Z) (Instr.extract x i):=by
 unfold Instr.extract
 cases h with
 | tuple c hc=>
  dsimp only;split
  ·rename_i e;exact Sf.pure (AP.get hc e)
  ·exact l7 _
 | _=>exact l7 _
theorem b3r(hP:POK Z P)(x:Value){Q:Value->Prop}:Sf Z P Q (Instr.panic x):=by
 unfold Instr.panic;split
 ·exact a0t _
 ·refine Sf.bind (R:=fun _=>True) ?_ fun n _=>?_
  ·unfold Instr.panicnil;refine Sf.bind (c39) fun r _=>?_;split
   ·exact Sf.bind D9 fun _ _=>Sf.pure trivial
   ·exact l7 _
  ·split
   ·exact a0t _
   ·exact o9 hP _
 ·exact l7 _
theorem a9H(hP:POK Z P){x:Value}(h:VP Z x)(t u:TypeId)(ok:Bool):Sf Z P (VP Z) (Instr.typeAssert x t u ok):=by
 unfold Instr.typeAssert;have hh:∀v,VP Z v->Sf Z P (VP Z) (pure (if ok then .tuple #[v,.bool true] else v):Sem Value):=fun v hv=>by
  split
  ·exact Sf.pure (.tuple _ ((AP.nil.push hv).push (.bool _)))
  ·exact Sf.pure hv
 have hf:∀s d m,Sf Z P (VP Z) (if ok then do pure (.tuple #[<-zeroValue u,.bool false]) else runtimePanic (.typeAssertion s d u m):Sem Value):=fun s d m=>by
  split
  ·exact Sf.bind (S9 hP _) fun z hz=>Sf.pure (.tuple _ ((AP.nil.push hz).push (.bool _)))
  ·exact o9 hP _
 dsimp only;refine Sf.bind (o6 _) fun d _=>?_;split
 ·exact hf _ _ _
 ·refine Sf.bind (I8 _) fun i _=>?_;split
  ·exact hh _ h
  ·exact hf _ _ _
 ·exact hf _ _ _
 ·split
  ·cases h with
   | iface _ _ _ hv=>exact hh _ hv
  ·exact hf _ _ _
 ·exact l7 _
theorem a7m(op:BinOp)(k:IntKind)(x y:Int):Sf Z P (VP Z) (Op.intArith op k x y):=by
 unfold Op.intArith;split<;>first|exact Sf.pure (.int _ _)|exact l7 _
theorem a8T(op:BinOp)(k:IntKind)(x y:Int):Sf Z P (VP Z) (Op.intBits op k x y):=by
 unfold Op.intBits;dsimp only;split<;>first|exact Sf.pure (.int _ _)|exact l7 _
theorem b7O(op:BinOp)(x y:Int):Sf Z P (VP Z) (Op.intCmp op x y):=by
 unfold Op.intCmp;split<;>first|exact Sf.pure (.bool _)|exact l7 _
theorem b7P(hP:POK Z P)(op:BinOp)(k:IntKind)(x y:Int):Sf Z P (VP Z) (Op.intDiv op k x y):=by
 unfold Op.intDiv;split
 ·exact o9 hP _
 ·split<;>first|exact Sf.pure (.int _ _)|exact l7 _
theorem b3s(hP:POK Z P)(op:BinOp)(k:IntKind)(x:Int)(k':IntKind)(y:Int):Sf Z P (VP Z) (Op.shift op k x k' y):=by
 unfold Op.shift;split
 ·exact o9 hP _
 ·dsimp only;split<;>first|exact Sf.pure (.int _ _)|exact l7 _
theorem a4h(op:BinOp)(x y:ByteArray):Sf Z P (fun v=>VP Z v) (Op.stringOp op x y):=by
 unfold Op.stringOp;dsimp only;split
 ·split
  ·exact H7 _ trivial
  ·exact Sf.pure (.string _)
 all_goals first|exact Sf.pure (.bool _)|exact l7 _
theorem a4L(op:BinOp)(k:FloatKind)(x y:Nat):Sf Z P (VP Z) (Op.floatArith op k x y):=by
 unfold Op.floatArith;dsimp only
 repeat' first
  | with_reducible exact Sf.pure (.float _ _)
  | with_reducible refine Sf.bind (L8 _) fun _ _=>?_
  | with_reducible refine Sf.bind (R:=fun _=>True) (Sf.pure trivial) fun _ _=>?_
  | with_reducible refine Sf.bind (R:=fun _=>True) (l7 _) fun _ _=>?_
  | split
theorem a7n(op:BinOp)(k:FloatKind)(x y:Nat):Sf Z P (VP Z) (Op.floatCmp op k x y):=by
 unfold Op.floatCmp;dsimp only;split<;>first|exact Sf.pure (.bool _)|exact l7 _
theorem a9I(k:FloatKind)(b:Nat)(d:IntKind):Sf Z P (VP Z) (Conv.floatToInt k b d):=by
 unfold Conv.floatToInt;dsimp only;split
 ·split
  ·exact Sf.pure (.int _ _)
  ·exact Sf.bind (L8 _) fun _ _=>Sf.pure (.int _ _)
 ·exact Sf.bind (L8 _) fun _ _=>Sf.pure (.int _ _)
theorem a0K(k:FloatKind)(b:Nat)(d:FloatKind):Sf Z P (VP Z) (Conv.floatToFloat k b d):=by
 unfold Conv.floatToFloat;split
 ·exact Sf.pure (.float _ _)
 ·split
  ·exact Sf.bind (L8 _) fun _ _=>Sf.pure (.float _ _)
  ·exact Sf.pure (.float _ _)
  ·dsimp only;split
   ·exact Sf.bind (L8 _) fun _ _=>Sf.pure (.float _ _)
   ·exact Sf.pure (.float _ _)
theorem a3F(src:FloatKind)(x:Nat)(dst:FloatKind):Sf Z P (fun _=>True) (Op.Complex.conv src x dst):=by
 unfold Op.Complex.conv;split
 ·exact Sf.pure trivial
 ·refine Sf.bind (a0K _ _ _) fun v _=>?_;split
  ·exact Sf.pure trivial
  ·exact l7 _
theorem a2W(op:BinOp)(k:FloatKind)(x y:Nat):Sf Z P (fun _=>True) (Op.Complex.arith op k x y):=by
 unfold Op.Complex.arith;refine Sf.bind (a4L _ _ _ _) fun v _=>?_;split
 ·exact Sf.pure trivial
 ·exact l7 _
theorem a5S(op:BinOp)(k:FloatKind)(x y:Nat):Sf Z P (fun _=>True) (Op.Complex.cmp op k x y):=Sf.bind (a7n _ _ _ _) fun v _=>a4u v
theorem b1Q(op:BinOp)(k:FloatKind)(a b c d:Nat):Sf Z P (VP Z) (Op.complexOp op k a b c d):=by
 have A:=fun op(x y:Nat)=>a2W (Z:=Z) (P:=P) op .f64 x y;have e4:∀x y:Nat,Sf Z P (fun _=>True) (Op.Complex.mul x y)/\Sf Z P (fun _=>True) (Op.Complex.add x y)/\Sf Z P (fun _=>True) (Op.Complex.sub x y)/\Sf Z P (fun _=>True) (Op.Complex.quo x y):=fun x y=>⟨A _ _ _,A _ _ _,A _ _ _,A _ _ _⟩;have prod:∀a b c d,Sf Z P (fun _=>True) (Op.Complex.product a b c d):=fun a b c d=>by
  unfold Op.Complex.product;exact Sf.bind (e4 _ _).1 fun _ _=>Sf.bind (e4 _ _).1 fun _ _=>Sf.bind (e4 _ _).2.2.1 fun _ _=>Sf.bind (e4 _ _).1 fun _ _=>Sf.bind (e4 _ _).1 fun _ _=>Sf.bind (e4 _ _).2.1 fun _ _=>Sf.pure trivial
 have corr:∀s a b c d,Sf Z P (fun _=>True) (Op.Complex.corrected s a b c d):=fun s a b c d=>by
  unfold Op.Complex.corrected;exact Sf.bind (e4 _ _).1 fun _ _=>Sf.bind (e4 _ _).1 fun _ _=>Sf.bind (e4 _ _).2.1 fun _ _=>Sf.bind (e4 _ _).1 fun _ _=>Sf.bind (e4 _ _).1 fun _ _=>Sf.bind (e4 _ _).1 fun _ _=>Sf.bind (e4 _ _).2.2.1 fun _ _=>Sf.bind (e4 _ _).1 fun _ _=>Sf.pure trivial
 have quot:∀a b c d,Sf Z P (fun _=>True) (Op.Complex.quotient a b c d):=fun a b c d=>by
  unfold Op.Complex.quotient;dsimp only
  repeat' first
   | with_reducible exact Sf.pure trivial
   | with_reducible exact corr _ _ _ _ _
   | with_reducible refine Sf.bind (a5S _ _ _ _) fun _ _=>?_
   | with_reducible refine Sf.bind (e4 _ _).1 fun _ _=>?_
   | with_reducible refine Sf.bind (e4 _ _).2.1 fun _ _=>?_
   | with_reducible refine Sf.bind (e4 _ _).2.2.1 fun _ _=>?_
   | with_reducible refine Sf.bind (e4 _ _).2.2.2 fun _ _=>?_
   | with_reducible refine Sf.bind (R:=fun _=>True) (Sf.pure trivial) fun _ _=>?_
   | split
 unfold Op.complexOp;split
 ·exact Sf.bind (a2W _ _ _ _) fun _ _=>Sf.bind (a2W _ _ _ _) fun _ _=>Sf.pure (.complex _ _ _)
 ·exact Sf.bind (a2W _ _ _ _) fun _ _=>Sf.bind (a2W _ _ _ _) fun _ _=>Sf.pure (.complex _ _ _)
 ·refine Sf.bind (a3F _ _ _) fun _ _=>Sf.bind (a3F _ _ _) fun _ _=>Sf.bind (a3F _ _ _) fun _ _=>Sf.bind (a3F _ _ _) fun _ _=>Sf.bind (R:=fun _=>True) ?_ fun _ _=>Sf.bind (a3F _ _ _) fun _ _=>Sf.bind (a3F _ _ _) fun _ _=>Sf.pure (.complex _ _ _);first|exact prod _ _ _ _|exact quot _ _ _ _
 ·refine Sf.bind (a3F _ _ _) fun _ _=>Sf.bind (a3F _ _ _) fun _ _=>Sf.bind (a3F _ _ _) fun _ _=>Sf.bind (a3F _ _ _) fun _ _=>Sf.bind (R:=fun _=>True) ?_ fun _ _=>Sf.bind (a3F _ _ _) fun _ _=>Sf.bind (a3F _ _ _) fun _ _=>Sf.pure (.complex _ _ _);first|exact prod _ _ _ _|exact quot _ _ _ _
 ·exact Sf.bind (a5S _ _ _ _) fun _ _=>Sf.bind (a5S _ _ _ _) fun _ _=>Sf.pure (.bool _)
 ·exact Sf.bind (a5S _ _ _ _) fun _ _=>Sf.bind (a5S _ _ _ _) fun _ _=>Sf.pure (.bool _)
 ·exact l7 _
theorem c0K(op:UnOp)(x:Value):Sf Z P (VP Z) (Op.unary op x):=by
 unfold Op.unary;split
 ·exact a7m _ _ _ _
 ·exact a8T _ _ _ _
 ·exact Sf.pure (.float _ _)
 ·exact Sf.pure (.complex _ _ _)
 ·exact Sf.pure (.bool _)
 ·exact H7 _ trivial
 ·exact H7 _ trivial
 ·exact l7 _
end
section
variable{Z:Zone}{P:Program}
theorem a3t{α β:Type}{Q:β->Prop}(x:Unsupported)(f:α->Sem β)(h:HaltOK (.unsupported x)):Sf Z P Q ((unsupported x:Sem α) >>= f):=h
theorem O3{α:Type}{Q:α->Prop}(c:Prop)[Decidable c]{s t:Sem α}(h:Sf Z P Q s)(k:Sf Z P Q t):Sf Z P Q (if c then s else t):=by
 split
 ·exact h
 ·exact k
theorem a8U{a b:Option Addr}(ha:∀x,a=some x->Z.D x.block)(hb:∀x,b=some x->Z.D x.block):Sf Z P (fun _=>True) (samePointer a b):=by
 unfold samePointer;split
 ·exact a7l (ha _ rfl) (hb _ rfl)
 ·exact Sf.pure trivial
theorem VP.inPtr{a:Addr}(h:VP Z (.pointer (some a))):Z.D a.block:=by cases h;assumption
theorem VP.inAgg{c:Array Value}(h:VP Z (.agg c)):AP Z c:=by cases h;assumption
theorem VP.inIface{t:TypeId}{v:Value}(h:VP Z (.iface t v)):Z.T t/\VP Z v:=by cases h;exact⟨by assumption,by assumption⟩
theorem b47(hP:POK Z P):∀(n:Nat)(t:TypeId)(x y:Value),VP Z x->VP Z y->Sf Z P (fun _=>True) (Op.equalIn n t x y):=by
 intro n
 induction n with
 | zero=>intro t x y _ _;exact H7 _ trivial
 | succ n ih=>
  intro t x y hx hy;unfold Op.equalIn;refine Sf.bind (o6 t) fun d _=>?_;split
  ·exact Sf.pure trivial
  ·split
   ·exact Sf.pure trivial
   ·exact l7 _
  ·exact Sf.pure trivial
  ·exact Sf.pure trivial
  ·rename_i a b;refine Sf.bind (G7 hx.inPtr) fun p hp=>Sf.bind (G7 hy.inPtr) fun q hq=>Sf.bind D9 fun _ _=>?_;split
   ·exact Sf.bind (a1i hp) fun _ _=>Sf.bind (a1i hq) fun _ _=>Sf.pure trivial
   ·refine Sf.bind (I8 _) fun i _=>?_;split
    ·split
     ·exact Sf.pure trivial
     ·exact H7 _ trivial
    ·exact H7 _ trivial
  ·exact H7 _ trivial
  ·exact H7 _ trivial
  ·split
   ·exact Sf.pure trivial
   ·exact l7 _
  ·split
   ·exact Sf.pure trivial
   ·exact l7 _
  ·exact Sf.pure trivial
  ·exact Sf.pure trivial
  ·exact Sf.pure trivial
  ·refine Sf.bind (J4 _) fun _ _=>?_;split
   ·exact a7l hx.inPtr hy.inPtr
   ·split
    ·exact Sf.pure trivial
    ·exact Sf.bind (L8 _) fun _ _=>Sf.pure trivial
  ·exact a8U (by rintro _ rfl;exact hx.inPtr) (by rintro _ rfl;exact hy.inPtr)
  ·exact Sf.pure trivial
  ·exact Sf.pure trivial
  ·exact Sf.pure trivial
  ·exact Sf.pure trivial
  ·split
   ·exact Sf.pure trivial
   ·refine Sf.bind (I8 _) fun i _=>?_;dsimp only;split
    ·refine Sf.bind D9 fun _ _=>Sf.bind D9 fun _ _=>?_;split
     ·exact H7 _ trivial
     ·exact Sf.bind (a3r _) fun _ _=>o9 hP _
    ·exact ih _ _ _ hx.inIface.2 hy.inIface.2
  ·refine Sf.bind D9 fun _ _=>?_;split
   ·exact H7 _ trivial
   ·refine Sf.bind (R:=fun _=>True) (a2V (I:=fun _=>True) _ trivial fun f _ b _=>?_) fun r _=>?_
    ·split
     ·refine Sf.bind (a0n _ hx.inAgg _) fun u hu=>Sf.bind (a0n _ hy.inAgg _) fun v hv=>Sf.bind (ih _ _ _ hu hv) fun c _=>?_;split<;>exact Sf.pure trivial
     ·exact Sf.pure trivial
    ·dsimp only;split<;>exact Sf.pure trivial
  ·refine Sf.bind (J4 _) fun _ _=>Sf.bind (R:=fun _=>True) (a6F (I:=fun _=>True) _ trivial fun i b _=>?_) fun r _=>?_
   ·refine Sf.bind (a0n _ hx.inAgg _) fun u hu=>Sf.bind (a0n _ hy.inAgg _) fun v hv=>Sf.bind (ih _ _ _ hu hv) fun c _=>?_;split<;>exact Sf.pure trivial
   ·dsimp only;split<;>exact Sf.pure trivial
  ·exact Sf.pure trivial
  ·exact Sf.pure trivial
  ·exact Sf.pure trivial
  ·exact Sf.pure trivial
  ·exact Sf.pure trivial
  ·exact Sf.pure trivial
  ·exact Sf.pure trivial
  ·exact l7 _
theorem a8V(hP:POK Z P)(t:TypeId){x y:Value}(hx:VP Z x)(hy:VP Z y):Sf Z P (fun _=>True) (Op.equal t x y):=b47 hP _ _ _ _ hx hy
theorem a5T:∀(n:Nat)(t:TypeId)(x y:Value),VP Z x->VP Z y->Sf Z P (fun _=>True) (Op.eqGuardIn n t x y):=by
 intro n
 induction n with
 | zero=>intro t x y _ _;exact H7 _ trivial
 | succ n ih=>
  intro t x y hx hy;unfold Op.eqGuardIn;refine Sf.bind (o6 t) fun d _=>?_;split
  ·exact Sf.pure trivial
  ·refine Sf.bind (R:=fun _=>True) (a2V (I:=fun _=>True) _ trivial fun f _ b _=>?_) fun r _=>?_
   ·split
    ·refine Sf.bind (a0n _ hx.inAgg _) fun u hu=>Sf.bind (a0n _ hy.inAgg _) fun v hv=>Sf.bind (ih _ _ _ hu hv) fun c _=>?_;split<;>exact Sf.pure trivial
    ·exact Sf.pure trivial
   ·dsimp only;split<;>exact Sf.pure trivial
  ·refine Sf.bind (J4 _) fun _ _=>Sf.bind (R:=fun _=>True) (a6F (I:=fun _=>True) _ trivial fun i b _=>?_) fun r _=>?_
   ·refine Sf.bind (a0n _ hx.inAgg _) fun u hu=>Sf.bind (a0n _ hy.inAgg _) fun v hv=>Sf.bind (ih _ _ _ hu hv) fun c _=>?_;split<;>exact Sf.pure trivial
   ·dsimp only;split<;>exact Sf.pure trivial
  ·exact Sf.pure trivial
theorem b48(op:BinOp)(t:TypeId)(x y:Operand){a b:Value}(ha:VP Z a)(hb:VP Z b):Sf Z P (fun _=>True) (eqGuard op t x y a b):=by
 unfold eqGuard;refine O3 _ (Sf.pure trivial) ?_;split
 ·refine O3 _ (Sf.pure trivial) ?_
  ·refine Sf.bind (a5T _ _ _ _ ha hb) fun c _=>?_;split
   ·exact H7 _ trivial
   ·exact Sf.pure trivial
 ·refine Sf.bind D9 fun _ _=>Sf.bind D9 fun _ _=>?_;split
  ·exact Sf.pure trivial
  ·refine Sf.bind (a5T _ _ _ _ ha hb) fun c _=>?_;split
   ·exact H7 _ trivial
   ·exact Sf.pure trivial
 ·exact Sf.pure trivial
theorem a9J(ts:Array TypeId)(t:TypeId){ptr:Option Addr}(y:Value)(hp:VP Z (.pointer ptr)):Sf Z P (VP Z) (Builtin.unsafeAdd_ ts t #[.pointer ptr,y]):=by
 unfold Builtin.unsafeAdd_;dsimp only;refine Sf.bind (a1B _) fun n _=>?_;split
 ·split
  ·refine Sf.bind (a4v hp.inPtr) fun o _=>?_;split
   ·exact a3t _ _ trivial
   ·exact Sf.pure hp
  ·exact H7 _ trivial
 ·split
  ·exact a3t _ _ trivial
  ·split
   ·refine Sf.bind (Y2 _) fun s _=>?_;split
    ·refine Sf.bind D9 fun p _=>?_;split
     ·exact Sf.pure (.ptr _ hp.inPtr)
     ·exact H7 _ trivial
    ·exact H7 _ trivial
   ·exact H7 _ trivial
theorem a1Q(ts:Array TypeId)(t:TypeId){args:Array Value}(h:AP Z args):Sf Z P (VP Z) (Builtin.unsafeAdd_ ts t args):=by
 obtain⟨l⟩:=args;rcases l with _|⟨x,_|⟨y,_|⟨z,l⟩⟩⟩
 ·exact l7 _
 ·cases x<;>exact l7 _
 ·cases x with
  | pointer p=>exact a9J ts t y (h _ (by simp))
  | _=>exact l7 _
 ·cases x<;>exact l7 _
theorem a2k(t:TypeId){x y:Value}(hx:VP Z x)(hy:VP Z y):Sf Z P (VP Z) (movedNumber t x y):=by
 unfold movedNumber;refine Sf.bind (o6 t) fun d _=>?_;refine O3 _ (a3t _ _ trivial) ?_
 ·split
  ·refine Sf.bind (G7 hx.inPtr) fun p hp=>?_;obtain⟨a,l⟩:=p;refine Sf.bind (a1Q _ _ ((AP.nil.push (.ptr _ hp)).push hy)) fun v hv=>?_;split
   ·exact a7k hv.inPtr _
   ·exact Sf.pure hv
  ·exact a1Q _ _ ((AP.nil.push hx).push hy)
theorem a7G(t:TypeId){x y:Value}(hx:VP Z x)(hy:VP Z y):Sf Z P (VP Z) (movedPointer t x y):=by
 unfold movedPointer;split
 ·refine Sf.bind (a7j hx.inPtr) fun o _=>?_;split
  ·exact H7 _ trivial
  ·exact a1Q _ _ ((AP.nil.push hx).push hy)
 ·exact a1Q _ _ ((AP.nil.push hx).push hy)
theorem a5U{a b:Addr}(ha:Z.D a.block)(hb:Z.D b.block):Sf Z P (fun _=>True) (Op.twoPlaces a b):=by
 unfold Op.twoPlaces;refine Sf.bind D9 fun _ _=>?_;split
 ·exact a3t _ _ trivial
 ·exact Sf.bind (a1i ha) fun _ _=>Sf.bind (a1i hb) fun _ _=>Sf.pure trivial
theorem b49(k:IntKind){a b:Addr}(ha:Z.D a.block)(hb:Z.D b.block):Sf Z P (VP Z) (Op.addrSub k a b):=Sf.bind (a5U ha hb) fun _ _=>Sf.pure (.int _ _)
theorem a3u(op:BinOp){a b:Addr}(ha:Z.D a.block)(hb:Z.D b.block):Sf Z P (VP Z) (Op.addrCmp op a b):=by
 unfold Op.addrCmp;refine Sf.bind (a5U ha hb) fun r _=>?_;obtain⟨x,y⟩:=r;dsimp only;split<;>first|exact Sf.pure (.bool _)|exact H7 _ trivial
theorem a5c(k:IntKind){a:Addr}(ha:Z.D a.block)(n:Int):Sf Z P (VP Z) (Op.addrMod k a n):=by
 unfold Op.addrMod;refine Sf.bind (Y2 _) fun s _=>?_;split
 ·refine Sf.bind (I8 _) fun i _=>?_;dsimp only;split
  ·exact H7 _ trivial
  ·exact Sf.bind (a1i ha) fun _ _=>Sf.pure (.int _ _)
 ·exact H7 _ trivial
theorem c0L(hP:POK Z P)(op:BinOp)(t:TypeId){x y:Value}(hx:VP Z x)(hy:VP Z y):Sf Z P (VP Z) (binOp op t x y):=by
 unfold binOp;split
 ·exact b3s hP _ _ _ _ _
 ·exact b3s hP _ _ _ _ _
 ·split
  ·exact l7 _
  ·split<;>first|exact a7m _ _ _ _|exact b7P hP _ _ _ _|exact a8T _ _ _ _|exact b7O _ _ _
 ·split
  ·exact l7 _
  ·split<;>first|exact a4L _ _ _ _|exact a7n _ _ _ _
 ·split
  ·exact l7 _
  ·exact b1Q _ _ _ _ _ _
 ·exact a4h _ _ _
 ·exact Sf.bind (a8V hP _ hx hy) fun _ _=>Sf.pure (.bool _)
 ·exact Sf.bind (a8V hP _ hx hy) fun _ _=>Sf.pure (.bool _)
 ·refine Sf.bind (o6 _) fun _ _=>?_;split
  ·exact a7G _ hx hy
  ·exact a2k _ hx hy
 ·exact a2k _ hy hx
 ·exact a2k _ hx (.int _ _)
 ·exact Sf.bind (G7 hx.inPtr) fun _ hp=>Sf.bind (G7 hy.inPtr) fun _ hq=>b49 _ hp hq
 ·exact Sf.bind (G7 hx.inPtr) fun _ hp=>Sf.bind (G7 hy.inPtr) fun _ hq=>a3u _ hp hq
 ·exact Sf.bind (G7 hx.inPtr) fun _ hp=>Sf.bind (G7 hy.inPtr) fun _ hq=>a3u _ hp hq
 ·exact Sf.bind (G7 hx.inPtr) fun _ hp=>Sf.bind (G7 hy.inPtr) fun _ hq=>a3u _ hp hq
 ·exact Sf.bind (G7 hx.inPtr) fun _ hp=>Sf.bind (G7 hy.inPtr) fun _ hq=>a3u _ hp hq
 ·exact Sf.bind (G7 hx.inPtr) fun _ hp=>a5c _ hp _
 ·exact Sf.bind (G7 hx.inPtr) fun _ hp=>a5c _ hp _
 ·exact Sf.bind (G7 hy.inPtr) fun _ hp=>a5c _ hp _
 ·exact H7 _ trivial
 ·exact H7 _ trivial
 ·exact l7 _
theorem a6H{x:Value}(hx:VP Z x):Sf Z P (VP Z) (Conv.bytesToString x):=by
 unfold Conv.bytesToString
 cases hx with
 | snil=>exact Sf.pure (.string _)
 | slice a n c ha=>
  refine Sf.bind (a1P ha _) fun l _=>Sf.bind (R:=fun _=>True) (a2V (I:=fun _=>True) _ trivial fun v _ b _=>?_) fun r _=>Sf.pure (.string _);split
  ·exact Sf.pure trivial
  ·exact l7 _
 | _=>exact l7 _
theorem a6I{x:Value}(hx:VP Z x):Sf Z P (VP Z) (Conv.runesToString x):=by
 unfold Conv.runesToString
 cases hx with
 | snil=>exact Sf.pure (.string _)
 | slice a n c ha=>
  refine Sf.bind (a1P ha _) fun l _=>Sf.bind (R:=fun _=>True) (a2V (I:=fun _=>True) _ trivial fun v _ b _=>?_) fun r _=>Sf.pure (.string _);split
  ·exact Sf.pure trivial
  ·exact l7 _
 | _=>exact l7 _
theorem a8W(s:ByteArray):AP Z (s.data.map fun b=>.int .u8 b.toNat):=fun x hx=>by
 obtain⟨b,_,rfl⟩:=Array.mem_map.1 hx;exact .int _ _
theorem a6J(e:TypeId)(s:ByteArray):Sf Z P (VP Z) (Conv.stringToBytes e s):=by
 unfold Conv.stringToBytes;refine Sf.bind (L8 _) fun c _=>Sf.bind (Z7 _ ((a8W s).append (AP.replicate _ (.int _ _)))) fun a ha=>Sf.bind (a1h _) fun _ _=>Sf.pure (.slice _ _ _ ha)
theorem c0M(s:ByteArray):∀(n i:Nat)(acc:Array Value),AP Z acc->AP Z (Conv.runesFrom s n i acc):=by
 intro n
 induction n with
 | zero=>intro i acc h;exact h
 | succ n ih=>
  intro i acc h;unfold Conv.runesFrom;split
  ·exact ih _ _ (h.push (.int _ _))
  ·exact h
theorem a6K(e:TypeId)(s:ByteArray):Sf Z P (VP Z) (Conv.stringToRunes e s):=by
 unfold Conv.stringToRunes;exact Sf.bind (L8 _) fun c _=>Sf.bind (Z7 _ ((c0M s _ _ _ AP.nil).append (AP.replicate _ (.int _ _)))) fun a ha=>Sf.pure (.slice _ _ _ ha)
theorem b0H{a:Addr}(ha:Z.D a.block):Sf Z P (fun a=>Z.D a.block) (Conv.seenAt a):=by
 unfold Conv.seenAt;refine Sf.bind (a4v ha) fun o ho=>?_;split
 ·rename_i s u;have hs:=ho _ _ rfl;dsimp only;split
  ·exact Sf.pure hs
  ·split
   ·exact H7 _ trivial
   ·refine Sf.bind D9 fun p _=>?_;split
    ·refine Sf.bind (Y2 _) fun q _=>?_;split
     ·split
      ·exact H7 _ trivial
      ·split
       ·exact Sf.pure hs
       ·exact H7 _ trivial
     ·exact H7 _ trivial
    ·exact H7 _ trivial
 ·exact Sf.pure ha
theorem a2X(t u:TypeId){x:Value}(hx:VP Z x):Sf Z P (VP Z) (Conv.unsafePointer t u x):=by
 unfold Conv.unsafePointer;refine Sf.bind (o6 _) fun d _=>Sf.bind (o6 _) fun e _=>?_;split
 ·exact Sf.pure hx
 ·refine Sf.bind (b0H hx.inPtr) fun s hs=>Sf.bind (b4Z hs) fun c _=>Sf.bind (J4 _) fun n _=>?_;exact O3 _ (Sf.bind (V8 (.view _ _ hs)) fun r hr=>Sf.pure (.ptr _ hr)) (Sf.pure (.ptr _ hs))
 ·exact Sf.pure hx
 ·refine Sf.bind (b0H hx.inPtr) fun s hs=>Sf.bind (J4 _) fun n _=>Sf.bind (a2j _ _ _) fun b _=>?_;split
  ·exact Sf.pure (.ptr _ hs)
  ·refine Sf.bind (Y2 _) fun q _=>?_;split
   ·refine Sf.bind D9 fun p _=>Sf.bind D9 fun p _=>?_;split
    ·exact H7 _ trivial
    ·exact Sf.bind (V8 (.view _ _ hs)) fun r hr=>Sf.pure (.ptr _ hr)
   ·exact H7 _ trivial
 ·exact Sf.pure hx
 ·exact Sf.pure (.int _ _)
 ·exact a7k hx.inPtr _
 ·exact H7 _ trivial
 ·exact H7 _ trivial
 ·exact H7 _ trivial
 ·exact l7 _
theorem b5a(t u:TypeId){x:Value}(hx:VP Z x):Sf Z P (VP Z) (convert t u x):=by
 unfold convert;refine Sf.bind (o6 _) fun d _=>Sf.bind (o6 _) fun e _=>?_;split
 ·exact Sf.pure (.int _ _)
 ·exact Sf.pure (.float _ _)
 ·exact a9I _ _ _
 ·exact a0K _ _ _
 ·unfold Conv.complexToComplex;refine Sf.bind (a0K _ _ _) fun v _=>?_;split
  ·refine Sf.bind (a0K _ _ _) fun v _=>?_;split
   ·exact Sf.pure (.complex _ _ _)
   ·exact l7 _
  ·exact l7 _
 ·exact Sf.pure (.string _)
 ·exact Sf.pure hx
 ·refine Sf.bind (o6 _) fun _ _=>?_;split
  ·exact a6J _ _
  ·exact a6K _ _
  ·exact l7 _
 ·refine Sf.bind (o6 _) fun _ _=>?_;split
  ·exact Sf.bind (a1h _) fun _ _=>Sf.pure hx
  ·exact H7 _ trivial
 ·refine Sf.bind (o6 _) fun _ _=>?_;split
  ·exact a6H hx
  ·exact a6I hx
  ·exact l7 _
 ·exact a2X _ _ hx
 ·exact a2X _ _ hx
 ·exact H7 _ trivial
 ·exact H7 _ trivial
end
section
variable{Z:Zone}{P:Program}
theorem a1D(hP:POK Z P)(em:Bool):∀(n:Nat)(t:TypeId)(v:Value),VP Z v->Sf Z P (fun _=>True) (Instr.checkKey em n t v):=by
 intro n
 induction n with
 | zero=>intro t v _;exact H7 _ trivial
 | succ n ih=>
  intro t v hv;unfold Instr.checkKey;refine Sf.bind (o6 t) fun d _=>?_;split
  ·refine Sf.bind (I8 _) fun i _=>?_;dsimp only;split
   ·split
    ·exact Sf.bind (R:=fun _=>True) (o9 hP _) fun _ _=>Sf.bind (a3r _) fun _ _=>Sf.bind (R:=fun _=>True) (o9 hP _) fun _ _=>ih _ _ hv.inIface.2
    ·exact Sf.bind (a3r _) fun _ _=>Sf.bind (R:=fun _=>True) (o9 hP _) fun _ _=>ih _ _ hv.inIface.2
   ·exact ih _ _ hv.inIface.2
  ·refine Sf.bind (R:=fun _=>True) (a6F (I:=fun _=>True) _ trivial fun i b _=>?_) fun r _=>Sf.pure trivial;exact Sf.bind (J4 _) fun _ _=>Sf.bind (a0n _ hv.inAgg _) fun u hu=>Sf.bind (ih _ _ hu) fun _ _=>Sf.pure trivial
  ·refine Sf.bind (R:=fun _=>True) (a2V (I:=fun _=>True) _ trivial fun f _ b _=>?_) fun r _=>Sf.pure trivial;exact O3 _ (Sf.bind (a0n _ hv.inAgg _) fun u hu=>Sf.bind (ih _ _ hu) fun _ _=>Sf.pure trivial) (Sf.pure trivial)
  ·exact Sf.pure trivial
  ·exact l7 _
  ·exact l7 _
  ·exact l7 _
  ·exact Sf.pure trivial
def b3t(Z:Zone)(l:List MapEntry):Prop:=∀e∈l,VP Z e.key/\VP Z e.val
theorem a9K(hP:POK Z P)(t:TypeId){k:Value}(hk:VP Z k):∀(l:List MapEntry)(i:Nat),b3t Z l->Sf Z P (fun o=>∀p,o=some p->VP Z p.2) (Instr.findAsking t k l i):=by
 intro l
 induction l with
 | nil=>intro i _;exact Sf.pure (by simp)
 | cons e l ih=>
  intro i hl;unfold Instr.findAsking;refine Sf.bind (a8V hP _ hk (hl e (by simp)).1) fun b _=>?_;split
  ·exact Sf.pure (by rintro _ ⟨⟩;exact(hl e (by simp)).2)
  ·exact ih _ fun x hx=>hl x (by simp[hx])
theorem b5b(d:TypeDesc)(k:Value):∀(l:List MapEntry)(i:Nat)(r:Option (Nat×Value)),b3t Z l->Instr.findNow d k l i=some r->∀p,r=some p->VP Z p.2:=by
 intro l
 induction l with
 | nil=>intro i r _ h p hp;injection h with h;subst h;cases hp
 | cons e l ih=>
  intro i r hl h p hp;unfold Instr.findNow at h;split at h
  ·injection h with h;subst h;injection hp with hp;subst hp;exact(hl e (by simp)).2
  ·exact ih _ r (fun x hx=>hl x (by simp[hx])) h p hp
  ·cases h
theorem a3v(hP:POK Z P)(t:TypeId){k:Value}(hk:VP Z k){l:List MapEntry}(hl:b3t Z l):Sf Z P (fun o=>∀p,o=some p->VP Z p.2) (Instr.findKey t k l):=by
 unfold Instr.findKey;refine Sf.bind (o6 _) fun d _=>?_;split
 ·rename_i e;exact Sf.pure (b5b d k l 0 _ hl e)
 ·exact a9K hP _ hk _ _ hl
theorem ObjP.inMap{es:Array MapEntry}{c:Nat}(h:ObjP Z (.map es c)):∀e∈es,VP Z e.key/\VP Z e.val:=by cases h;assumption
theorem VP.inMap{r:Nat}(h:VP Z (.map (some r))):Z.D r:=by cases h;assumption
theorem b7Q(hP:POK Z P)(t:TypeId){x i:Value}(hx:VP Z x)(hi:VP Z i)(ok:Bool):Sf Z P (VP Z) (Instr.lookup t x i ok):=by
 unfold Instr.lookup;refine Sf.bind (o6 _) fun d _=>?_;split
 ·rename_i key elem;dsimp only;have fin:∀r:Value×Bool,VP Z r.1->VP Z (if ok then .tuple #[r.1,.bool r.2] else r.1):=fun r hr=>by
   split
   ·exact .tuple _ ((AP.nil.push hr).push (.bool _))
   ·exact hr
  generalize hf:(fun r:Value×Bool=>(if ok then Value.tuple #[r.1,.bool r.2] else r.1))=f;have fin:∀r:Value×Bool,VP Z r.1->VP Z (f r):=by subst hf;exact fin
  have e1:∀v o,(if ok=true then Value.tuple #[v,.bool o] else v)=f (v,o):=by subst hf;intro v o;rfl
  simp only[e1]
  cases hx with
  | mnil=>
   refine Sf.bind (R:=fun es:Array MapEntry=>b3t Z es.toList) (Sf.pure (by intro e he;simp at he)) fun es hes=>Sf.bind (a1D hP _ _ _ _ hi) fun _ _=>Sf.bind (a3v hP _ hi hes) fun o ho=>?_;split
   ·exact Sf.bind (R:=fun r:Value×Bool=>VP Z r.1) (Sf.pure (ho _ rfl)) fun r hr=>Sf.pure (fin r hr)
   ·exact Sf.bind (S9 hP _) fun z hz=>Sf.bind (R:=fun r:Value×Bool=>VP Z r.1) (Sf.pure hz) fun r hr=>Sf.pure (fin r hr)
  | map r hr=>
   refine Sf.bind (U2 hr) fun o ho=>?_;split
   ·refine Sf.bind (R:=fun es:Array MapEntry=>b3t Z es.toList) (Sf.pure fun e he=>ho.inMap e (by simpa using he)) fun es hes=>Sf.bind (a1D hP _ _ _ _ hi) fun _ _=>Sf.bind (a3v hP _ hi hes) fun o ho=>?_;split
    ·exact Sf.bind (R:=fun r:Value×Bool=>VP Z r.1) (Sf.pure (ho _ rfl)) fun r hr=>Sf.pure (fin r hr)
    ·exact Sf.bind (S9 hP _) fun z hz=>Sf.bind (R:=fun r:Value×Bool=>VP Z r.1) (Sf.pure hz) fun r hr=>Sf.pure (fin r hr)
   ·exact(trivial:HaltOK (.stuck _))
  | _=>exact(trivial:HaltOK (.stuck _))
 ·exact l7 _
theorem a7H{a b:Value}(ha:VP Z a)(hb:VP Z b):Sf Z P (VP Z) (Instr.keyThatStays a b):=by
 unfold Instr.keyThatStays;refine O3 _ (Sf.pure hb) (Sf.bind (L8 _) fun _ _=>Sf.pure ?_);split
 ·exact hb
 ·exact ha
theorem mem_modify{α:Type}{f:α->α}{i:Nat}{l:Array α}{x:α}(h:x∈l.modify i f):x∈l\/∃y∈l,x=f y:=by
 obtain⟨j,hj⟩:=Array.mem_iff_getElem?.1 h;rw[Array.getElem?_modify] at hj;split at hj
 ·obtain⟨y,hy,rfl⟩:=Option.map_eq_some_iff.1 hj;exact .inr ⟨y,Array.mem_of_getElem? hy,rfl⟩
 ·exact .inl (Array.mem_of_getElem? hj)
theorem a5V(hP:POK Z P)(t:TypeId){m k v:Value}(hm:VP Z m)(hk:VP Z k)(hv:VP Z v):Sf Z P (fun _=>True) (Instr.mapUpdate t m k v):=by
 unfold Instr.mapUpdate;refine Sf.bind (o6 _) fun d _=>?_;split
 ·split
  ·exact o9 hP _
  ·refine Sf.bind (U2 hm.inMap) fun o ho=>?_;split
   ·rename_i es clock;have hes:=ho.inMap;refine Sf.bind (a1D hP _ _ _ _ hk) fun _ _=>Sf.bind (a3v hP _ hk (fun e he=>hes e (by simpa using he))) fun o ho=>?_;split
    ·rename_i i w;refine Sf.bind (a7H (a:=((es[i]?).map (·.key)).getD k) ?_ hk) fun k' hk'=>?_
     ·cases e:es[i]? with
      | none=>exact hk
      | some x=>exact(hes x (Array.mem_of_getElem? e)).1
     ·refine Z5 hm.inMap (.map _ _ fun e he=>?_);rcases mem_modify he with h|⟨y,hy,rfl⟩
      ·exact hes e h
      ·exact⟨hk',hv⟩
    ·refine Z5 hm.inMap (.map _ _ fun e he=>?_);rcases Array.mem_push.1 he with h|rfl
     ·exact hes e h
     ·exact⟨hk,hv⟩
   ·exact l7 _
  ·exact l7 _
 ·exact l7 _
theorem b1R{α:Type}{i:Nat}{l:Array α}{x:α}(h:x∈l.eraseIdxIfInBounds i):x∈l:=by
 unfold Array.eraseIdxIfInBounds at h;split at h
 ·exact Array.mem_of_mem_eraseIdx h
 ·exact h
theorem b7R(hP:POK Z P)(ts:Array TypeId)(t:TypeId){args:Array Value}(h:AP Z args):Sf Z P (VP Z) (Builtin.delete_ ts t args):=by
 unfold Builtin.delete_;split
 ·rename_i mt m k e;have e:=Prod.mk.inj e;have e':=Prod.mk.inj e.2;have hm:VP Z m:=h.get e'.1;have hk:VP Z k:=h.get e'.2;refine Sf.bind (o6 _) fun d _=>?_;split
  ·split
   ·exact Sf.bind (a1D hP _ _ _ _ hk) fun _ _=>Sf.pure (.tuple _ AP.nil)
   ·refine Sf.bind (U2 hm.inMap) fun o ho=>?_;split
    ·rename_i es clock;have hes:=ho.inMap;refine Sf.bind (a1D hP _ _ _ _ hk) fun _ _=>Sf.bind (a3v hP _ hk (fun e he=>hes e (by simpa using he))) fun o ho=>?_;split
     ·exact Sf.bind (Z5 hm.inMap (.map _ _ fun e he=>hes e (b1R he))) fun _ _=>Sf.pure (.tuple _ AP.nil)
     ·exact Sf.bind (Z5 hm.inMap (.map _ _ hes)) fun _ _=>Sf.pure (.tuple _ AP.nil)
    ·exact l7 _
   ·exact l7 _
  ·exact l7 _
 ·exact l7 _
theorem c0N(t:TypeId){x:Value}(hx:VP Z x):Sf Z P (VP Z) (Instr.range t x):=by
 unfold Instr.range;refine Sf.bind (o6 _) fun d _=>?_;split
 ·exact Sf.bind (R:=ObjP Z) (Sf.pure (.stringIter _ _)) fun o ho=>Sf.bind (V8 ho) fun r hr=>Sf.pure (.ptr _ hr)
 ·exact Sf.bind (R:=ObjP Z) (Sf.pure (.iterNil _ _ _)) fun o ho=>Sf.bind (V8 ho) fun r hr=>Sf.pure (.ptr _ hr)
 ·refine Sf.bind (U2 hx.inMap) fun o ho=>?_;split
  ·exact Sf.bind (R:=ObjP Z) (Sf.pure (.iter _ _ _ _ hx.inMap)) fun o ho=>Sf.bind (V8 ho) fun r hr=>Sf.pure (.ptr _ hr)
  ·exact l7 _
 ·exact Sf.bind (R:=ObjP Z) (l7 _) fun o ho=>Sf.bind (V8 ho) fun r hr=>Sf.pure (.ptr _ hr)
theorem ObjP.inIter{m since:Nat}{seen:Array Nat}{st:Nat}(h:ObjP Z (.mapIter (some m) since seen st)):Z.D m:=by cases h;assumption
theorem c2p{x:Value}(hx:VP Z x)(s:Bool)(t:TypeId):Sf Z P (VP Z) (Instr.next x s t):=by
 unfold Instr.next;have over:Sf Z P (VP Z) (pure (.tuple #[.bool false]):Sem Value):=Sf.pure (.tuple _ (AP.nil.push (.bool _)));dsimp only;split
 ·rename_i r _;have hr:Z.D r:=hx.inPtr;refine Sf.bind (U2 hr) fun o ho=>?_;split
  ·split
   ·exact Sf.bind (Z5 hr (.stringIter _ _)) fun _ _=>Sf.pure (.tuple _ (((AP.nil.push (.bool _)).push (.int _ _)).push (.int _ _)))
   ·exact over
  ·exact over
  ·rename_i m since seen last;have hm:=ho.inIter;refine Sf.bind (U2 hm) fun o ho=>?_;split
   ·rename_i es clock;have hes:=ho.inMap;split
    ·exact a3t _ _ trivial
    ·refine Sf.bind (L8 _) fun n _=>?_;split
     ·rename_i e he;have hmem:e∈es:=by
       have h1:=Array.mem_of_getElem? he;rcases Array.mem_append.1 h1 with h2|h2
       ·split at h2<;>simp at h2
       ·obtain⟨y,hy,hye⟩:=Array.mem_map.1 h2;injection hye with hye;subst hye;rcases Array.mem_append.1 hy with h3|h3
        ·exact(Array.mem_filter.1 (Array.mem_filter.1 h3).1).1
        ·exact(Array.mem_filter.1 (Array.mem_filter.1 h3).1).1
      exact Sf.bind (Z5 hr (.iter _ _ _ _ hm)) fun _ _=>Sf.pure (.tuple _ (((AP.nil.push (.bool _)).push (hes e hmem).1).push (hes e hmem).2))
     ·exact over
     ·exact l7 _
   ·exact l7 _
  ·exact l7 _
 ·exact l7 _
theorem c0O{x:Value}(hx:VP Z x):Sf Z P (VP Z) (Instr.entry x):=by
 unfold Instr.entry;split
 ·refine Sf.bind (U2 hx.inPtr) fun o ho=>?_;split
  ·have hm:=ho.inIter;split
   ·refine Sf.bind (U2 hm) fun o ho=>?_;split
    ·have hes:=ho.inMap;refine O3 _ (a3t _ _ trivial) ?_
     ·split
      ·rename_i e he;have hmem:=Array.mem_of_find?_eq_some he;exact Sf.pure (.tuple _ ((AP.nil.push (hes _ hmem).1).push (hes _ hmem).2))
      ·exact H7 _ trivial
    ·exact l7 _
   ·exact l7 _
  ·exact l7 _
 ·exact l7 _
theorem a2l{l:Nat}(h:Z.D l):Sf Z P (c2Q Z) (Instr.getLoop l):=by
 unfold Instr.getLoop;refine Sf.bind (U2 h) fun o ho=>?_;split
 ·cases ho;exact Sf.pure (by assumption)
 ·exact l7 _
theorem a9L(hP:POK Z P){l:Nat}(h:Z.D l):Sf Z P (fun _=>True) (Instr.beginRound l):=by
 unfold Instr.beginRound;refine Sf.bind (a2l h) fun r hr=>Sf.bind (Z5 h (.loop _ ⟨hr.pending,hr.fn,hr.tmps,hr.assign,hr.body,hr.defers⟩)) fun _ _=>?_;split
 ·exact Sf.pure trivial
 all_goals exact o9 hP _
theorem b3u{l:Nat}(h:Z.D l)(j:Option Code)(hj:∀c,j=some c->b3l c):Sf Z P (VP Z) (Instr.endRound l j):=by
 unfold Instr.endRound;exact Sf.bind (a2l h) fun r hr=>Sf.bind (Z5 h (.loop _ ⟨hj,hr.fn,hr.tmps,hr.assign,hr.body,hr.defers⟩)) fun _ _=>Sf.pure (.bool _)
theorem b5c(hP:POK Z P){l:Nat}(h:Z.D l):Sf Z P (fun j=>∀c,j=some c->b3l c) (Instr.endLoop l):=by
 unfold Instr.endLoop;refine Sf.bind (a2l h) fun r hr=>?_;split
 ·exact Sf.bind (R:=fun _=>True) (o9 hP _) fun _ _=>Sf.bind (Z5 h (.loop _ ⟨hr.pending,hr.fn,hr.tmps,hr.assign,hr.body,hr.defers⟩)) fun _ _=>Sf.pure hr.pending
 ·exact Sf.bind (Z5 h (.loop _ ⟨hr.pending,hr.fn,hr.tmps,hr.assign,hr.body,hr.defers⟩)) fun _ _=>Sf.pure hr.pending
theorem a3G{l:Nat}(h:Z.D l):Sf Z P (fun ds=>ds=[]) (Instr.takeDeferred l):=by
 unfold Instr.takeDeferred;refine Sf.bind (U2 h) fun o ho=>?_;split
 ·cases ho;exact Sf.bind (Z5 h .taken) fun _ _=>Sf.pure rfl
 ·exact l7 _
def MarksP(Z:Zone)(ds:List Deferred):Prop:=∀d∈ds,∃r,d={target:=.collected r,args:=#[]}/\Z.D r
theorem b1S{fn:FuncId}{tmps:Array Value}(ht:AP Z tmps)(params:Array Tmp){assign body:Code}(ha:CodeP Z assign)(hb:CodeP Z body){around:Option Nat}(har:∀l,around=some l->Z.D l):
 Sf Z P (fun r=>Z.D r.1/\MarksP Z r.2) (Instr.enterLoop fn tmps params assign body around):=by
 unfold Instr.enterLoop;split
 ·refine Sf.bind (a2l (har _ rfl)) fun r hr=>Sf.bind (R:=fun p:Nat×List Deferred=>Z.D p.1/\MarksP Z p.2) (Sf.pure ⟨hr.defers,by intro d hd;cases hd⟩) fun p hp=>?_;exact Sf.bind (V8 (.loop _ ⟨by simp,trivial,ht,ha,hb,hp.1⟩)) fun l hl=>Sf.pure ⟨hl,hp.2⟩
 ·refine Sf.bind (V8 .deferred) fun r hr=>Sf.bind (R:=fun p:Nat×List Deferred=>Z.D p.1/\MarksP Z p.2) (Sf.pure ⟨hr,by intro d hd;simp at hd;exact⟨r,hd,hr⟩⟩) fun p hp=>?_;exact Sf.bind (V8 (.loop _ ⟨by simp,trivial,ht,ha,hb,hp.1⟩)) fun l hl=>Sf.pure ⟨hl,hp.2⟩
theorem a4M(a:Addr)(n:Nat):Sf Z P (fun _=>True) (Builtin.holdsCells a n):=by
 unfold Builtin.holdsCells;refine Sf.bind (Y2 _) fun s _=>?_;split<;>exact Sf.pure trivial
theorem a5W(x:Value):Sf Z P (fun _=>True) (Builtin.lenOf x):=by
 unfold Builtin.lenOf;split<;>first|exact Sf.pure trivial|exact l7 _
theorem a0E(size n:Nat){x:Value}(hx:VP Z x):Sf Z P (AP Z) (Builtin.firstCells size n x):=by
 unfold Builtin.firstCells
 cases hx with
 | slice a _ _ ha=>exact a1P ha _
 | snil=>exact Sf.pure AP.nil
 | string s=>exact Sf.pure (a8W _)
 | _=>exact l7 _
theorem a3w{c:Array Value}(h:AP Z c)(n:Nat):AP Z (Builtin.zeroCells c n):=a4w h _
theorem a7o(size l n:Nat)(base:Option Addr)(x:Value):Sf Z P (fun _=>True) (Builtin.mayShare size l n base x):=by
 unfold Builtin.mayShare
 have rest:∀c:Bool,Sf Z P (fun _=>True) (if (!c)=true then pure true else(match x with
  | .slice (some b) _ _=>(do let r <-Builtin.holdsCells b (n*size);pure (!r||base.any (·.block==b.block)):Sem Bool)
  | _=>pure false)):=fun c=>by
  refine O3 _ (Sf.pure trivial) ?_;split
  ·exact Sf.bind (a4M _ _) fun _ _=>Sf.pure trivial
  ·exact Sf.pure trivial
 cases base with
 | none=>exact Sf.bind (R:=fun _=>True) (Sf.pure trivial) fun r _=>rest r
 | some a=>exact Sf.bind (a4M _ _) fun _ _=>Sf.bind (a2U _) fun _ _=>Sf.bind (R:=fun _=>True) (Sf.pure trivial) fun r _=>rest r
end
section
variable{Z:Zone}{P:Program}
theorem b0I:Sf Z P (fun _=>True) (mark .noRoom):=⟨trivial,trivial⟩
theorem c0P{α:Type}{Q:α->Prop}(x:String):Sf Z P Q (unsupported (.resourceLimit x):Sem α):=trivial
theorem a7p(hP:POK Z P)(zeros:Bool)(size n:Nat)(elem:TypeId){x:Value}(hx:VP Z x):
 Sf Z P (AP Z) (if (!zeros)=true then Builtin.firstCells size n x else if n*size=0 then pure #[] else do pure (Builtin.zeroCells (<-zeroValue elem).cells n)):=
 O3 _ (a0E _ _ hx) (O3 _ (Sf.pure AP.nil) (Sf.bind (S9 hP _) fun z hz=>Sf.pure (a3w hz.cells _)))
theorem b7S(hP:POK Z P)(ts:Array TypeId)(t:TypeId){args:Array Value}(h:AP Z args):Sf Z P (VP Z) (Builtin.append_ ts t args):=by
 unfold Builtin.append_;split
 case h_2=>exact l7 _
 rename_i sT s x e;have e:=Prod.mk.inj e;have e':=Prod.mk.inj e.2;have hs:VP Z s:=h.get e'.1;have hx:VP Z x:=h.get e'.2;refine Sf.bind (o6 _) fun d _=>?_;split
 case h_2=>exact l7 _
 rename_i elem;have hs0:=hs
 cases hs0 with
 | snil l c=>
  dsimp only
  repeat' first
   | with_reducible exact Sf.pure (.snil _ _)
   | with_reducible exact Sf.pure (.slice _ _ _ (by assumption))
   | with_reducible refine Sf.bind (J4 _) fun _ _=>?_
   | with_reducible refine Sf.bind (o6 _) fun _ _=>?_
   | with_reducible refine Sf.bind (I8 _) fun _ _=>?_
   | with_reducible refine Sf.bind (a1B _) fun _ _=>?_
   | with_reducible refine Sf.bind (a5W _) fun _ _=>?_
   | with_reducible refine Sf.bind (L8 _) fun _ _=>?_
   | with_reducible refine Sf.bind (a3q _) fun _ _=>?_
   | with_reducible refine Sf.bind (a7o _ _ _ _ _) fun _ _=>?_
   | with_reducible refine Sf.bind b0I fun _ _=>?_
   | with_reducible refine Sf.bind (S9 hP _) fun _ _=>?_
   | with_reducible refine Sf.bind (a7p hP _ _ _ _ hx) fun _ _=>?_
   | with_reducible refine Sf.bind (a0E _ _ hs) fun _ _=>?_
   | with_reducible refine Sf.bind (a1r (by rw[add_block];assumption) _ _ (AP.list (by assumption))) fun _ _=>?_
   | with_reducible refine Sf.bind (Z7 _ ((AP.append (by assumption) (by assumption)).append (a3w (VP.cells (by assumption)) _))) fun _ _=>?_
   | with_reducible refine Sf.bind (R:=fun _=>True) (Sf.pure trivial) fun _ _=>?_
   | with_reducible refine Sf.bind (R:=fun _=>True) (o9 hP _) fun _ _=>?_
   | with_reducible exact c0P _
   | with_reducible exact o9 hP _
   | with_reducible refine Sf.bind (R:=fun _=>True) (O3 _ (o9 hP _) ?_) fun _ _=>?_
   | with_reducible refine O3 _ ?_ ?_
   | split
 | slice a l c ha=>
  dsimp only
  repeat' first
   | with_reducible exact Sf.pure (.snil _ _)
   | with_reducible exact Sf.pure (.slice _ _ _ (by assumption))
   | with_reducible refine Sf.bind (J4 _) fun _ _=>?_
   | with_reducible refine Sf.bind (o6 _) fun _ _=>?_
   | with_reducible refine Sf.bind (I8 _) fun _ _=>?_
   | with_reducible refine Sf.bind (a1B _) fun _ _=>?_
   | with_reducible refine Sf.bind (a5W _) fun _ _=>?_
   | with_reducible refine Sf.bind (L8 _) fun _ _=>?_
   | with_reducible refine Sf.bind (a3q _) fun _ _=>?_
   | with_reducible refine Sf.bind (a7o _ _ _ _ _) fun _ _=>?_
   | with_reducible refine Sf.bind b0I fun _ _=>?_
   | with_reducible refine Sf.bind (S9 hP _) fun _ _=>?_
   | with_reducible refine Sf.bind (a7p hP _ _ _ _ hx) fun _ _=>?_
   | with_reducible refine Sf.bind (a0E _ _ hs) fun _ _=>?_
   | with_reducible refine Sf.bind (a1r (by rw[add_block];assumption) _ _ (AP.list (by assumption))) fun _ _=>?_
   | with_reducible refine Sf.bind (Z7 _ ((AP.append (by assumption) (by assumption)).append (a3w (VP.cells (by assumption)) _))) fun _ _=>?_
   | with_reducible refine Sf.bind (R:=fun _=>True) (Sf.pure trivial) fun _ _=>?_
   | with_reducible refine Sf.bind (R:=fun _=>True) (o9 hP _) fun _ _=>?_
   | with_reducible exact c0P _
   | with_reducible exact o9 hP _
   | with_reducible refine Sf.bind (R:=fun _=>True) (O3 _ (o9 hP _) ?_) fun _ _=>?_
   | with_reducible refine O3 _ ?_ ?_
   | split
 | _=>exact(trivial:HaltOK (.stuck _))
end
end Go.Zn
