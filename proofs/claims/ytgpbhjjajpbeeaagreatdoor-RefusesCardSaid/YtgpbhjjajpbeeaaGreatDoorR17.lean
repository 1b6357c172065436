/- A part of what the last file proves. -/
import Derived.Test.YtgpbhjjajpbeeaaGreatDoorR16
import GoSem.Dispatch
set_option linter.all false
set_option maxHeartbeats 4000000
namespace Go.Bi
section
variable{S:Sit}{P:Program}
theorem b8m(t:TypeId)(hz:ZOK S P t):Im S P (VR S) (Instr.alloc t true (.tuple #[])) (Instr.alloc t true (.tuple #[])):=by
 unfold Instr.alloc;refine Im.bind (X7 t hz) ?_;intro z z' hz;refine Im.bind (a9X t hz) ?_;rintro a _ ⟨ha,rfl⟩;exact Im.pure (.ptr a ha)
structure PR(p p':Nat×Value):Prop where
 at_:p'.1=p.1
 val:VR S p.2 p'.2
theorem b8n(off:Nat):∀(l l':List (Value×Nat))(c c':Array Value),LR (fun p p'=>VR S p.1 p'.1/\p'.2=p.2) l l'->AR S c c'->
 AR S (l.foldl (fun cs(c,j)=>cs.setIfInBounds (off+j) c) c) (l'.foldl (fun cs(c,j)=>cs.setIfInBounds (off+j) c) c'):=by
 intro l l' c c' hl
 induction hl generalizing c c' with
 | nil=>intro h;exact h
 | @cons p p' l l' h _ ih=>
  intro hc;obtain⟨v,i⟩:=p;obtain⟨v',i'⟩:=p';obtain⟨h1,h2⟩:=h;dsimp only at h1 h2;subst h2;rw[List.foldl_cons,List.foldl_cons];exact ih _ _ (hc.set _ h1)
theorem c26{l l':List Value}(h:LR (VR S) l l'):∀k,LR (fun p p'=>VR S p.1 p'.1/\p'.2=p.2) (l.zipIdx k) (l'.zipIdx k):=by
 induction h with
 | nil=>intro k;exact .nil
 | cons h _ ih=>intro k;exact .cons ⟨h,rfl⟩ (ih _)
theorem a7Y(place:Nat->Option (Nat×Nat)):∀(l l':List (Nat×Value))(c c':Array Value),LR (PR (S:=S)) l l'->AR S c c'->
 (Instr.fill place c l=none)\/∃x x',Instr.fill place c l=some x/\Instr.fill place c' l'=some x'/\AR S x x':=by
 intro l l' c c' hl
 induction hl generalizing c c' with
 | nil=>intro h;exact .inr ⟨c,c',rfl,rfl,h⟩
 | @cons p p' l l' h _ ih=>
  intro hc;obtain⟨i,v⟩:=p;obtain⟨i',v'⟩:=p';obtain⟨rfl,hv⟩:=h;have hcs:=hv.cells;unfold Instr.fill;dsimp only
  cases place i' with
  | none=>exact .inl rfl
  | some os=>
   obtain⟨off,size⟩:=os;dsimp only at hcs⊢;rw[<-hcs.size,<-hc.size];split
   ·exact .inl rfl
   ·refine ih _ _ ?_;have h1:LR (fun p p'=>VR S p.1 p'.1/\p'.2=p.2) v.cells.zipIdx.toList v'.cells.zipIdx.toList:=by
     rw[Array.toList_zipIdx,Array.toList_zipIdx];exact c26 hcs.list 0
    have:=b8n off _ _ c c' h1 hc;rw[<-Array.foldl_toList,<-Array.foldl_toList];exact this
theorem b0V{α β:Type}(f:α->Sem β)(h:∀x,Im S P (fun a b=>b=a) (f x) (f x))(l:List α):Im S P (fun a b=>b=a) (l.mapM f) (l.mapM f):=by
 induction l with
 | nil=>exact Im.pure rfl
 | cons x l ih=>
  rw[List.mapM_cons];refine Im.bind (h x) ?_;rintro _ a rfl;refine Im.bind ih ?_;rintro _ b rfl;exact Im.pure rfl
theorem a9f{α β:Type}(f:α->Sem β)(h:∀x,Im S P (fun a b=>b=a) (f x) (f x))(l:Array α):Im S P (fun a b=>b=a) (l.mapM f) (l.mapM f):=by
 rw[Array.mapM_eq_mapM_toList];show Im S P _ (Functor.map List.toArray _) (Functor.map List.toArray _);rw[map_eq_pure_bind];refine Im.bind (b0V f h _) ?_;rintro _ a rfl;exact Im.pure rfl
theorem b8o(t:TypeId)(hz:ZOK S P t){parts parts':Array (Nat×Value)}(h:LR (PR (S:=S)) parts.toList parts'.toList):Im S P (VR S) (Instr.build t parts) (Instr.build t parts'):=by
 unfold Instr.build;refine Im.bind (X7 t hz) ?_;intro z z' hz;dsimp only;refine Im.bind (D8 t) ?_;rintro d _ ⟨rfl,_⟩;split
 ·refine Im.bind (a9f _ (fun f=>?_) _) ?_
  ·refine Im.bind (U1 _) ?_;rintro _ n rfl;exact Im.pure rfl
  ·rintro _ places rfl;rcases a7Y (fun i=>places[i]?) _ _ _ _ h hz.cells with e|⟨x,x',e,e',hx⟩
   ·rw[e];exact A7 _ _
   ·rw[e,e'];exact Im.pure (VR.agg' hx)
 ·refine Im.bind (U1 _) ?_;rintro _ n rfl;rcases a7Y (fun i=>some (i*n,n)) _ _ _ _ h hz.cells with e|⟨x,x',e,e',hx⟩
  ·rw[e];exact A7 _ _
  ·rw[e,e'];exact Im.pure (VR.agg' hx)
 ·exact A7 _ _
theorem b0W{c c':Array Value}(h:AR S c c')(hne:∀n,n≠0->True)(n:Nat)(hd:0<c.size\/n=0):AR S ((Array.range n).map (c[· % c.size]!)) ((Array.range n).map (c'[· % c'.size]!)):=by
 refine⟨by simp,fun i h1 h2=>?_⟩;simp only[Array.getElem_map,Array.getElem_range];simp only[Array.size_map,Array.size_range] at h1;rcases hd with hd|hd
 ·have hm:i%c.size<c.size:=Nat.mod_lt _ hd;have hm':i%c'.size<c'.size:=by rw[<-h.size];exact hm
  rw[getElem!_pos c _ hm,getElem!_pos c' _ hm'];have:=h.at_ (i%c.size) hm (by rw[<-h.size];exact hm);simpa only[h.size] using this
 ·omega
theorem b3A:VR S (default:Value) default:=VR.bool _
theorem a4C{c c':Array Value}(h:AR S c c')(n:Nat):AR S ((Array.range n).map (c[· % c.size]!)) ((Array.range n).map (c'[· % c'.size]!)):=by
 by_cases hd:0<c.size
 ·exact b0W h (fun _ _=>trivial) n (.inl hd)
 ·refine⟨by simp,fun i h1 h2=>?_⟩;simp only[Array.getElem_map,Array.getElem_range];have h0:c.size=0:=by omega
  have h0':c'.size=0:=by rw[<-h.size];exact h0
  rw[getElem!_neg c _ (by omega),getElem!_neg c' _ (by omega)];exact b3A
theorem a9g(t:TypeId)(hz:∀e,P.underlying t=some (.slice e)->ZOK S P e)(len:Nat){parts parts':Array (Nat×Value)}(h:LR (PR (S:=S)) parts.toList parts'.toList):Im S P (VR S) (Instr.buildSlice t len parts) (Instr.buildSlice t len parts'):=by
 unfold Instr.buildSlice;refine Im.bind (D8 t) ?_;rintro d _ ⟨rfl,hd⟩;split
 ·rename_i elem;refine Im.bind (U1 _) ?_;rintro _ size rfl;dsimp only;split
  ·exact y9 _ _
  ·have key:∀z z',AR S z z'->Im S P (VR S)
    (do
      let some cells:=Instr.fill (fun i=>some (i*size,size)) ((Array.range (len*size)).map (z[· % z.size]!)) parts.toList|stuck "buildSlice: a part of the wrong size"
      pure (.slice (some (<-newRow elem cells)) len len))
    (do
      let some cells:=Instr.fill (fun i=>some (i*size,size)) ((Array.range (len*size)).map (z'[· % z'.size]!)) parts'.toList|stuck "buildSlice: a part of the wrong size"
      pure (.slice (some (<-newRow elem cells)) len len)):=by
    intro z z' hz;rcases a7Y (fun i=>some (i*size,size)) _ _ _ _ h (a4C hz (len*size)) with e|⟨x,x',e,e',hx⟩
    ·rw[e];exact A7 _ _
    ·rw[e,e'];refine Im.bind (a1R _ hx) ?_;rintro a _ ⟨ha,rfl⟩;exact Im.pure (.slice a len len ha)
   split
   ·exact Im.bind (R:=AR S) (Im.pure AR.nil) key
   ·exact Im.bind (X7 _ (hz _ hd)) fun z z' hz=>Im.bind (R:=AR S) (Im.pure hz.cells) key
 ·exact A7 _ _
theorem b6b(t:TypeId){a a':Value}(h:VR S a a'):Im S P (VR S) (Instr.loadAt t a) (Instr.loadAt t a'):=by
 unfold Instr.loadAt;refine Im.bind (a1t h) ?_;rintro a _ ⟨ha,rfl⟩;exact a7X t ha
theorem b3B(t:TypeId){a a' v v':Value}(h:VR S a a')(hv:VR S v v'):Im S P (fun _ _=>True) (Instr.storeAt t a v) (Instr.storeAt t a' v'):=by
 unfold Instr.storeAt;refine Im.bind (a1t h) ?_;rintro a _ ⟨ha,rfl⟩;exact b2b t ha hv
theorem a9h{a:Addr}(h:S.D a.block)(f:Field)(hz:∀i,P.info? f.type=some i->i.size≠0):Im S P (fun a a'=>S.D a.block/\a'=rA S a) (fieldPlace a f) (fieldPlace (rA S a) f):=by
 unfold fieldPlace;unfold sizeOf;simp only[bind_assoc,pure_bind];refine Im.bind (X6 _) ?_;rintro _ i ⟨rfl,hi⟩;rw[if_neg (hz _ hi),if_neg (hz _ hi),<-a1Z];exact Im.pure ⟨by rw[add_block];exact h,rfl⟩
theorem b3C(s:TypeId)(f:Nat)(hz:∀fs g i,P.underlying s=some (.struct fs)->fs[f]?=some g->P.info? g.type=some i->i.size≠0){a a':Value}(h:VR S a a'):Im S P (VR S) (Instr.fieldAt s a f) (Instr.fieldAt s a' f):=by
 unfold Instr.fieldAt;refine Im.bind (D8 s) ?_;rintro _ d ⟨rfl,hd⟩;split
 ·rename_i fs;split
  ·rename_i g hg;refine Im.bind (a1t h) ?_;rintro a _ ⟨ha,rfl⟩;refine Im.bind (a9h ha g fun i hi=>hz fs g i hd hg hi) ?_;rintro b _ ⟨hb,rfl⟩;exact Im.pure (.ptr b hb)
  ·exact A7 _ _
 ·exact A7 _ _
def a6a(t:TypeId)(k:IntKind)(n:Int)(p:Option Addr×Nat×TypeId):Sem Value:=do
 let tiny:=p.2.1<=1&&(match <-underlying t with|.array ..=>true|_=>false)
 match p.1 with
 | some a=>
  if 0<=n/\n<p.2.1 then pure (.pointer (some (a.add (n.toNat*(<-sizeOf p.2.2)))))
  else if tiny then unsupported (.noEntry "op/indexAddr.an index out of range at an array of length 0 or 1 (ledger 616)")
  else boundsPanic k n p.2.1 .index
 | none=>boundsPanic k n 0 .index
theorem a3b(hP:POK S P)(t:TypeId)(k:IntKind)(n:Int){p p':Option Addr×Nat×TypeId}(h2:p'.2=p.2)(h1:(p.1=none/\p'.1=none)\/∃x,p.1=some x/\p'.1=some (rA S x)/\S.D x.block):
 Im S P (VR S) (a6a t k n p) (a6a t k n p'):=by
 obtain⟨b,l⟩:=p;obtain⟨b',l'⟩:=p';dsimp only at h1 h2;subst h2;unfold a6a;refine Im.bind (D8 t) ?_;rintro _ d ⟨rfl,_⟩;dsimp only;rcases h1 with⟨rfl,rfl⟩|⟨a,rfl,rfl,ha⟩
 ·exact a14 _ _ _ _
 ·dsimp only;split
  ·refine Im.bind (U1 _) ?_;rintro _ s rfl;rw[<-a1Z];exact Im.pure (.ptr _ (by rw[add_block];exact ha))
  ·split<;>split<;>first|exact y9 _ _|exact a14 _ _ _ _
theorem b3D(hP:POK S P)(t:TypeId){x x' i i':Value}(h:VR S x x')(hi:VR S i i'):Im S P (VR S) (Instr.indexAt t x i) (Instr.indexAt t x' i'):=by
 unfold Instr.indexAt;refine Im.bind (a4N hi) ?_;rintro _ ⟨k,n⟩ ⟨rfl,_⟩;dsimp only;refine Im.bind (D8 t) ?_;rintro _ d ⟨rfl,_⟩
 cases d with
 | array len elem=>
  refine Im.bind (a1t h) ?_;rintro a _ ⟨ha,rfl⟩
  exact a3b hP t k n (p:=(some a,len,elem)) (p':=(some (rA S a),len,elem)) rfl (.inr ⟨a,rfl,rfl,ha⟩)
 | slice elem=>
  cases h with
  | snil l c=>exact a3b hP t k n (p:=(none,l,elem)) (p':=(none,l,elem)) rfl (.inl ⟨rfl,rfl⟩)
  | slice a l c ha=>exact a3b hP t k n (p:=(some a,l,elem)) (p':=(some (rA S a),l,elem)) rfl (.inr ⟨a,rfl,rfl,ha⟩)
  | _=>exact A7 _ _
 | _=>exact A7 _ _
theorem a9i(hP:POK S P){x x':Value}(h:VR S x x')(y:Nat)(c:BoundsCode):Im S P (fun a b=>b=a) (Instr.sliceBound x y c) (Instr.sliceBound x' y c):=by
 unfold Instr.sliceBound;refine Im.bind (a4N h) ?_;rintro _ ⟨k,n⟩ ⟨rfl,_⟩;dsimp only;split
 ·exact Im.pure rfl
 ·exact a14 _ _ _ _
inductive OR(S:Sit):Option Value->Option Value->Prop
 | none:OR S none none
 | some {v v':Value} (h:VR S v v'):OR S (some v) (some v')
theorem a0p(hP:POK S P)(b:Bool)(n c:Nat){l l' h h' m m':Option Value}(hl:OR S l l')(hh:OR S h h')(hm:OR S m m'):Im S P (fun a b=>b=a) (Instr.sliceBounds b n c l h m) (Instr.sliceBounds b n c l' h' m'):=by
 unfold Instr.sliceBounds;cases hm<;>cases hh<;>cases hl<;>dsimp only <;>
  repeat (first|exact A7 _ _|exact Im.pure rfl|(refine Im.bind (R:=fun(a b:Nat)=>b=a) (by first|exact Im.pure rfl|exact A7 _ _|exact a9i hP (by assumption) _ _) ?_;rintro _ _ rfl))
theorem b8p(hP:POK S P)(t:TypeId){x x':Value}(hx:VR S x x'){l l' h h' m m':Option Value}(hl:OR S l l')(hh:OR S h h')(hm:OR S m m'):Im S P (VR S) (Instr.slice t x l h m) (Instr.slice t x' l' h' m'):=by
 unfold Instr.slice;refine Im.bind (D8 t) ?_;rintro _ d ⟨rfl,_⟩;have key:∀(a:Addr)(ha:S.D a.block)(elem:TypeId)(b:Bool)(n c:Nat),Im S P (VR S)
  (do let (l,h,m) <-Instr.sliceBounds b n c l h m;let size <-sizeOf elem;pure (.slice (some (if m=l then a else a.add (l*size))) (h - l) (m - l)):Sem Value)
  (do let (l,h,m) <-Instr.sliceBounds b n c l' h' m';let size <-sizeOf elem;pure (.slice (some (if m=l then rA S a else(rA S a).add (l*size))) (h - l) (m - l)):Sem Value):=by
  intro a ha elem b n c;refine Im.bind (a0p hP _ _ _ hl hh hm) ?_;rintro _ ⟨i,j,k⟩ rfl;refine Im.bind (U1 _) ?_;rintro _ s rfl;split
  ·exact Im.pure (.slice a _ _ ha)
  ·rw[<-a1Z];exact Im.pure (.slice _ _ _ (by rw[add_block];exact ha))
 cases d with
 | string=>
  cases hx with
  | string s=>
   dsimp only
   cases hm with
   | some _=>exact A7 _ _
   | none=>
    refine Im.bind (a0p hP _ _ _ hl hh .none) ?_;rintro _ ⟨i,j,k⟩ rfl
    exact Im.pure (.string _)
  | _=>exact A7 _ _
 | slice elem=>
  cases hx with
  | snil n c=>
   dsimp only;refine Im.bind (a0p hP _ _ _ hl hh hm) ?_;rintro _ ⟨i,j,k⟩ rfl;refine Im.bind (U1 _) ?_;rintro _ s rfl;dsimp only
   split<;>exact Im.pure (.snil _ _)
  | slice a n c ha=>
   dsimp only;refine Im.bind (a0p hP _ _ _ hl hh hm) ?_;rintro _ ⟨i,j,k⟩ rfl;refine Im.bind (U1 _) ?_;rintro _ s rfl;dsimp only;split
   ·exact Im.pure (.slice a _ _ ha)
   ·rw[Option.map_some,Option.map_some,<-a1Z];exact Im.pure (.slice _ _ _ (by rw[add_block];exact ha))
  | _=>exact A7 _ _
 | pointer arr=>
  refine Im.bind (a9Y hx) ?_;rintro a _ ⟨ha,rfl⟩;refine Im.bind (D8 _) ?_;rintro _ d ⟨rfl,_⟩;split
  ·exact key a ha _ _ _ _
  ·exact A7 _ _
 | _=>exact A7 _ _
theorem b3E(hP:POK S P)(t:TypeId){x x':Value}(hx:VR S x x'){l l' h h' m m':Option Value}(hl:OR S l l')(hh:OR S h h')(hm:OR S m m'):Im S P (VR S) (Instr.sliceAt t x l h m) (Instr.sliceAt t x' l' h' m'):=by
 unfold Instr.sliceAt;refine Im.bind (D8 t) ?_;rintro _ d ⟨rfl,_⟩;split
 ·refine Im.bind (a1t hx) ?_;rintro a _ ⟨ha,rfl⟩;refine Im.bind (a0p hP _ _ _ hl hh hm) ?_;rintro _ ⟨i,j,k⟩ rfl;refine Im.bind (U1 _) ?_;rintro _ s rfl;split
  ·exact Im.pure (.slice a _ _ ha)
  ·rw[<-a1Z];exact Im.pure (.slice _ _ _ (by rw[add_block];exact ha))
 ·exact b8p hP t hx hl hh hm
theorem a6b(t:TypeId)(ht:S.T t){x x':Value}(hx:VR S x x'):Im S P (VR S) (Instr.makeInterface t x) (Instr.makeInterface t x'):=by
 unfold Instr.makeInterface;refine Im.bind (D8 t) ?_;rintro _ d ⟨rfl,_⟩;split
 ·exact A7 _ _
 ·exact Im.pure (.iface t _ _ ht hx)
theorem b3F(i:Nat){x x':Value}(h:VR S x x'):Im S P (VR S) (Instr.extract x i) (Instr.extract x' i):=by
 unfold Instr.extract
 cases h with
 | tuple c c' hc hc'=>
  rcases AR.get? ⟨hc,hc'⟩ i with⟨e,_⟩|⟨v,v',e,e',hv⟩
  ·dsimp only;rw[e];exact A7 _ _
  ·dsimp only;rw[e,e'];exact Im.pure hv
 | _=>exact A7 _ _
end
section
variable{S:Sit}{P:Program}
theorem a0j{α β:Type}{R:α->β->Prop}(c:Prop)[Decidable c]{s t:Sem α}{s' t':Sem β}(h:c->Im S P R s s')(k:¬c->Im S P R t t'):Im S P R (if c then s else t) (if c then s' else t'):=by
 split
 ·exact h ‹_›
 ·exact k ‹_›
theorem U5{α β β':Type}{R:β->β'->Prop}(x:Unsupported)(f:α->Sem β)(s':Sem β'):Im S P R (unsupported x >>= f) s':=Im.halt _ _
theorem a6N(op:BinOp)(k:IntKind)(x y:Int):Im S P (VR S) (Op.intArith op k x y) (Op.intArith op k x y):=by
 unfold Op.intArith;split<;>first|exact Im.pure (.int _ _)|exact A7 _ _
theorem a7Z(op:BinOp)(k:IntKind)(x y:Int):Im S P (VR S) (Op.intBits op k x y) (Op.intBits op k x y):=by
 unfold Op.intBits;dsimp only;split<;>first|exact Im.pure (.int _ _)|exact A7 _ _
theorem b6c(op:BinOp)(x y:Int):Im S P (VR S) (Op.intCmp op x y) (Op.intCmp op x y):=by
 unfold Op.intCmp;split<;>first|exact Im.pure (.bool _)|exact A7 _ _
theorem b6d(op:BinOp)(k:IntKind)(x y:Int):Im S P (VR S) (Op.intDiv op k x y) (Op.intDiv op k x y):=by
 unfold Op.intDiv;split
 ·exact P6 _ trivial
 ·split<;>first|exact Im.pure (.int _ _)|exact A7 _ _
theorem b8q(op:BinOp)(k:IntKind)(x:Int)(j:IntKind)(y:Int):Im S P (VR S) (Op.shift op k x j y) (Op.shift op k x j y):=by
 unfold Op.shift;split
 ·exact P6 _ trivial
 ·dsimp only;split<;>first|exact Im.pure (.int _ _)|exact A7 _ _
theorem a3K(op:BinOp)(x y:ByteArray):Im S P (VR S) (Op.stringOp op x y) (Op.stringOp op x y):=by
 unfold Op.stringOp;dsimp only;split
 ·split
  ·exact y9 _ _
  ·exact Im.pure (.string _)
 all_goals first|exact Im.pure (.bool _)|exact A7 _ _
theorem b8r(op:UnOp){x x':Value}(h:VR S x x'):Im S P (VR S) (Op.unary op x) (Op.unary op x'):=by
 cases h<;>cases op<;>first|exact a6N .sub _ 0 _|exact a7Z .xor _ _ _|exact Im.pure (.float _ _)|exact Im.pure (.complex _ _ _)|exact Im.pure (.bool _)|exact y9 _ _|exact A7 _ _
theorem a6c(op:BinOp)(t:TypeId)(k:IntKind)(a:Int)(k':IntKind)(b:Int):Im S P (VR S) (binOp op t (.int k a) (.int k' b)) (binOp op t (.int k a) (.int k' b)):=by
 have key:∀{s s':Sem Value},Im S P (VR S) s s'->Im S P (VR S) (if k≠k' then stuck "BinOp: operands of different kinds" else s) (if k≠k' then stuck "BinOp: operands of different kinds" else s'):=fun h=>a0j _ (fun _=>A7 _ _) fun _=>h
 cases op<;>first
  | exact key (a6N _ _ _ _)
  | exact key (b6d _ _ _ _)
  | exact key (a7Z _ _ _ _)
  | exact key (b6c _ _ _)
  | (unfold binOp;exact b8q _ _ _ _ _)
theorem a1H(t:TypeId){p p':Option Addr}(hp:VR S (.pointer p) (.pointer p')){y y':Value}(hy:VR S y y'):Im S P (VR S) (Builtin.unsafeAdd_ #[] t #[.pointer p,y]) (Builtin.unsafeAdd_ #[] t #[.pointer p',y']):=by
 unfold Builtin.unsafeAdd_;dsimp only;refine Im.bind (b8l hy) ?_;rintro n _ rfl
 cases hp with
 | pnil=>
  dsimp only;split
  ·exact y9 _ _
  ·split
   ·exact U5 _ _ _
   ·exact y9 _ _
 | ptr a ha=>
  dsimp only;split
  ·refine Im.bind (a90 ha) ?_;rintro o _ rfl;split
   ·exact U5 _ _ _
   ·exact Im.pure (.ptr a ha)
  ·split
   ·exact U5 _ _ _
   ·refine Im.bind (a3J ha) ?_;rintro s _ rfl;split
    ·refine Im.bind Y4 ?_;rintro p p' ⟨hp,hp'⟩;subst hp';subst hp;rw[b3z];split
     ·rename_i off _;exact Im.pure (.ptr {a with off:=off} ha)
     ·exact y9 _ _
    ·exact y9 _ _
theorem a0T(t:TypeId){x x' y y':Value}(hx:VR S x x')(hy:VR S y y'):Im S P (VR S) (movedNumber t x y) (movedNumber t x' y'):=by
 unfold movedNumber;refine Im.bind (D8 t) ?_;rintro d _ ⟨rfl,_⟩
 cases hx with
 | ptr a ha=>
  dsimp only;refine a0j _ (fun _=>U5 _ _ _) fun _=>?_;refine Im.bind (U3 ha) ?_;rintro⟨b,l⟩ _ ⟨hb,rfl⟩;refine Im.bind (a1H t (.ptr b hb) hy) ?_;intro v v' hv
  cases hv with
  | ptr c hc=>exact b2c hc _
  | _=>exact Im.pure (by constructor<;>assumption)
 | pnil=>
  dsimp only
  exact a0j _ (fun _=>U5 _ _ _) fun _=>a1H t .pnil hy
 | _=>
  dsimp only;exact a0j _ (fun _=>U5 _ _ _) fun _=>Im.halt _ _
theorem a3z(t:TypeId){p p':Option Addr}(hp:VR S (.pointer p) (.pointer p')){y y':Value}(hy:VR S y y'):Im S P (VR S) (movedPointer t (.pointer p) y) (movedPointer t (.pointer p') y'):=by
 unfold movedPointer
 cases hp with
 | pnil=>exact a1H t .pnil hy
 | ptr a ha=>
  refine Im.bind (a6M ha) ?_;intro o o' ho
  cases ho with
  | none=>exact a1H t (.ptr a ha) hy
  | some b l hb=>exact U5 _ _ _
theorem b6e{a:Addr}(ha:S.D a.block):Im S P (fun a b=>b=a) (byteOf a) (byteOf (rA S a)):=by
 unfold byteOf;rw[c08];split
 ·exact Im.pure rfl
 ·refine Im.bind Y4 ?_;rintro p p' ⟨hp,hp'⟩;subst hp';subst hp;refine Im.bind (b6a ha) ?_;intro _ _ _;refine Im.bind (a3J ha) ?_;rintro _ s rfl;rw[b3z];split
  ·dsimp only;split
   ·exact Im.pure rfl
   ·split
    ·exact Im.pure rfl
    ·exact A7 _ _
  ·exact A7 _ _
structure PGK(S:Sit)(P:Program):Prop where
 high:∀b,S.D b->P.globals.size<=b
 inj:∀a b,S.D a->S.D b->S.ren a=S.ren b->a=b
theorem b3G(hP:PGK S P)(op:BinOp){a b a' b':Addr}(ha:S.D a.block):Im S P (VR S) (Op.addrCmp op a b) (Op.addrCmp op a' b'):=by
 unfold Op.addrCmp Op.twoPlaces;have e:(a.block != b.block||decide (a.block ≥ P.globals.size))=true:=by simp[hP.high _ ha]
 refine Im.bind (R:=fun _ _=>False) (Im.bind Y4 ?_) fun _ _ h=>h.elim;rintro p p' ⟨hp,hp'⟩;subst hp';subst hp;rw[if_pos e];exact U5 _ _ _
theorem a8a(k:IntKind){a:Addr}(ha:S.D a.block)(n:Int):Im S P (VR S) (Op.addrMod k a n) (Op.addrMod k (rA S a) n):=by
 unfold Op.addrMod;refine Im.bind (a3J ha) ?_;rintro s _ rfl;split
 ·refine Im.bind (X6 _) ?_;rintro i _ ⟨rfl,_⟩;dsimp only;refine a0j _ (fun _=>U5 _ _ _) fun _=>?_;refine Im.bind (b6e ha) ?_;rintro n _ rfl;exact Im.pure (.int _ _)
 ·exact y9 _ _
def c1b:BinOp->Bool
 | .add|.lss|.gtr|.and|.or|.xor|.mul|.shl|.shr=>true
 | _=>false
theorem b8s(hP:PGK S P)(op:BinOp)(ho:c1b op=true)(t:TypeId){x x' y y':Value}(hx:VR S x x')(hy:VR S y y'):Im S P (VR S) (binOp op t x y) (binOp op t x' y'):=by
 have hx0:=hx;have hy0:=hy;have hadd:∀{a b u u':Value}{c:Prop}[Decidable c]{r r':Sem Value},Im S P (VR S) r r'->(Im S P (VR S) (movedNumber t a u) (movedNumber t b u'))->Im S P (VR S) (if c then r else movedNumber t a u) (if c then r' else movedNumber t b u'):=fun h k=>a0j _ (fun _=>h) fun _=>k
 cases hx with
 | int k a=>
  cases hy with
  | int k' b=>exact a6c _ _ _ _ _ _
  | ptr b hb=>
   cases op<;>first
    | exact absurd ho (by decide)
    | (unfold binOp;dsimp only;first
        | exact a0T t hy0 hx0
        | exact y9 _ _
        | (refine Im.bind (U3 hb) ?_;rintro p _ ⟨h1,rfl⟩;exact a8a _ h1 _))
  | _=>cases op<;>first
   | exact absurd ho (by decide)
   | (unfold binOp;dsimp only;first
       | exact a0T t hy0 hx0
       | exact y9 _ _
       | exact A7 _ _)
 | string s=>
  cases hy with
  | string u=>cases op<;>first|exact absurd ho (by decide)|(unfold binOp;dsimp only;exact a3K _ _ _)
  | _=>cases op<;>first
   | exact absurd ho (by decide)
   | (unfold binOp;dsimp only;first|exact y9 _ _|exact A7 _ _)
 | ptr a ha=>
  cases hy with
  | int k' b=>
   cases op<;>first
    | exact absurd ho (by decide)
    | (unfold binOp;dsimp only;first
        | exact y9 _ _
        | (refine Im.bind (U3 ha) ?_;rintro p _ ⟨h1,rfl⟩;exact a8a _ h1 _)
        | (refine Im.bind (D8 t) ?_
           rintro d _ ⟨rfl,_⟩
           exact hadd (a3z t hx0 hy0) (a0T t hx0 hy0)))
  | ptr b hb=>
   cases op<;>first
    | exact absurd ho (by decide)
    | (unfold binOp;dsimp only;first
        | exact y9 _ _
        | (refine Im.bind (U3 ha) ?_;rintro p _ ⟨h1,rfl⟩
           refine Im.bind (U3 hb) ?_;rintro q _ ⟨h2,rfl⟩
           exact b3G hP _ h1))
  | _=>cases op<;>first
   | exact absurd ho (by decide)
   | (unfold binOp;dsimp only;first|exact y9 _ _|exact A7 _ _)
 | pnil=>
  cases hy with
  | int k' b=>
   cases op<;>first
    | exact absurd ho (by decide)
    | (unfold binOp;dsimp only;first
        | exact y9 _ _
        | (refine Im.bind (D8 t) ?_
           rintro d _ ⟨rfl,_⟩
           exact hadd (a3z t hx0 hy0) (a0T t hx0 hy0)))
  | _=>cases op<;>first
   | exact absurd ho (by decide)
   | (unfold binOp;dsimp only;first|exact y9 _ _|exact A7 _ _)
 | _=>
  cases hy<;>cases op<;>first
   | exact absurd ho (by decide)
   | (unfold binOp;dsimp only;first|exact y9 _ _|exact A7 _ _)
end
section
variable{S:Sit}{P:Program}
structure PQG(S:Sit)(P:Program):Prop extends PGK S P where
 high':∀b,S.D b->P.globals.size<=S.ren b
theorem c27(hP:PGK S P){a b:Addr}(ha:S.D a.block)(hb:S.D b.block):(rA S a==rA S b)=(a==b):=by
 rw[Bool.eq_iff_iff,beq_iff_eq,beq_iff_eq];refine⟨fun h=>?_,fun h=>by rw[h]⟩;obtain⟨x,i,s⟩:=a;obtain⟨y,j,u⟩:=b;unfold rA at h;injection h with h1 h2 h3;have:=hP.inj _ _ ha hb h1;dsimp only at this h2 h3;subst this;subst h2;subst h3;rfl
theorem c1c(hP:PQG S P)(d:Nat)(t:TypeId){k:IntKind}(ht:P.underlying t=some (.int k)){x x' y y':Value}(hx:VR S x x')(hy:VR S y y'):Im S P (fun a b=>b=a) (Op.equalIn (d+1) t x y) (Op.equalIn (d+1) t x' y'):=by
 rw[Op.equalIn,Op.equalIn];refine Im.bind (D8 t) ?_;rintro _ td ⟨rfl,h⟩;rw[ht] at h;injection h with h;subst h
 cases hx with
 | int k1 a=>
  cases hy with
  | int k2 b=>exact a0j _ (fun _=>Im.pure rfl) fun _=>A7 _ _
  | ptr b hb=>
   by_cases e:a=0
   ·subst e;exact Im.pure rfl
   ·dsimp only;split<;>first|exact Im.pure rfl|(rename_i h _;cases h)|skip
    all_goals first|exact y9 _ _|exact absurd (by simp_all) e|skip
    all_goals simp_all
  | _=>first|exact y9 _ _|exact A7 _ _
 | ptr a ha=>
  cases hy with
  | int k2 b=>
   by_cases e:b=0
   ·subst e;exact Im.pure rfl
   ·dsimp only;split<;>first|exact Im.pure rfl|skip
    all_goals first|exact y9 _ _|exact absurd (by simp_all) e|skip
    all_goals simp_all
  | ptr b hb=>
   dsimp only;refine Im.bind (U3 ha) ?_;rintro⟨p,l⟩ _ ⟨hp,rfl⟩;refine Im.bind (U3 hb) ?_;rintro⟨q,l'⟩ _ ⟨hq,rfl⟩;refine Im.bind Y4 ?_;rintro p0 p0' ⟨h0,h0'⟩;rw[h0,h0'];have e1:¬(p.block==q.block&&decide (p.block<P.globals.size))=true:=by simp;intro _;exact hP.high _ hp
   have e2:¬((rA S p).block==(rA S q).block&&decide ((rA S p).block<P.globals.size))=true:=by
    have h3:decide ((rA S p).block<P.globals.size)=false:=decide_eq_false (by have h4:P.globals.size<=S.ren p.block:=hP.high' _ hp;simp only[b1Z];omega);rw[h3];simp
   dsimp only;rw[if_neg e1,if_neg e2];refine Im.bind (X6 t) ?_;rintro _ i ⟨rfl,_⟩;rw[c27 hP.toPGK hp hq];split
   ·exact a0j _ (fun _=>Im.pure rfl) fun _=>y9 _ _
   ·exact y9 _ _
  | _=>first|exact y9 _ _|exact A7 _ _
 | pnil=>cases hy<;>first|exact y9 _ _|exact A7 _ _
 | _=>cases hy<;>first|exact y9 _ _|exact A7 _ _
theorem c4i(hP:PQG S P)(t:TypeId){k:IntKind}(ht:P.underlying t=some (.int k)){x x' y y':Value}(hx:VR S x x')(hy:VR S y y'):Im S P (fun a b=>b=a) (Op.equal t x y) (Op.equal t x' y'):=c1c hP 9999 t ht hx hy
theorem b2d(op:BinOp)(t:TypeId){k:IntKind}(ht:P.underlying t=some (.int k))(x y:Operand){a a' b b':Value}(ha:VR S a a')(hb:VR S b b'):Im S P (fun _ _=>True) (eqGuard op t x y a b) (eqGuard op t x y a' b'):=by
 have key:∀(u:Unsupported){a a' b b':Value},Im S P (fun _ _=>True) (do if <-Op.eqGuardIn Op.maxDepth t a b then unsupported u:Sem Unit) (do if <-Op.eqGuardIn Op.maxDepth t a' b' then unsupported u:Sem Unit):=by
  intro u a a' b b';refine Im.bind (R:=fun a b=>a=false/\b=false) ?_ ?_
  ·show Im S P _ (Op.eqGuardIn (9999+1) t a b) (Op.eqGuardIn (9999+1) t a' b');rw[Op.eqGuardIn,Op.eqGuardIn];refine Im.bind (D8 t) ?_;rintro _ td ⟨rfl,h⟩;rw[ht] at h;injection h with h;subst h;exact Im.pure ⟨rfl,rfl⟩
  ·rintro _ _ ⟨rfl,rfl⟩;exact Im.pure trivial
 unfold eqGuard;refine a0j _ (fun _=>Im.pure trivial) fun _=>?_
 cases ha with
 | nilIface=>
  cases hb with
  | nilIface=>exact a0j _ (fun _=>Im.pure trivial) fun _=>key _
  | _=>exact Im.pure trivial
 | agg c c' hc hc'=>
  cases hb with
  | agg e e' he he'=>
   dsimp only;refine Im.bind Y4 ?_;rintro p0 p0' ⟨h0,h0'⟩;rw[h0,h0'];refine Im.bind Y4 ?_;rintro p1 p1' ⟨h1,h1'⟩;rw[h1,h1']
   exact a0j _ (fun _=>Im.pure trivial) fun _=>key _
  | _=>exact Im.pure trivial
 | _=>cases hb<;>exact Im.pure trivial
theorem b2e(op:BinOp)(t:TypeId)(x:Operand){a a':Value}(ha:VR S a a'):Im S P (fun _ _=>True) (eqGuard op t x (.const .nilIface) a .nilIface) (eqGuard op t x (.const .nilIface) a' .nilIface):=by
 unfold eqGuard;refine a0j _ (fun _=>Im.pure trivial) fun _=>?_
 cases ha with
 | nilIface=>exact a0j _ (fun _=>Im.pure trivial) fun h=>absurd (by simp) h
 | _=>exact Im.pure trivial
theorem b8t(t:TypeId){ms:Array (String×TypeId)}(ht:P.underlying t=some (.interface ms)){x x':Value}(hx:VR S x x'):Im S P (fun a b=>b=a) (Op.equal t x .nilIface) (Op.equal t x' .nilIface):=by
 show Im S P _ (Op.equalIn (9999+1) t x _) (Op.equalIn (9999+1) t x' _);rw[Op.equalIn,Op.equalIn];refine Im.bind (D8 t) ?_;rintro _ td ⟨rfl,h⟩;rw[ht] at h;injection h with h;subst h;cases hx<;>first|exact Im.pure rfl|exact A7 _ _
inductive b5o(P:Program)(t:TypeId):Operand->Prop
 | int (k:IntKind) (ht:P.underlying t=some (.int k)) (y:Operand):b5o P t y
 | nil (ms:Array (String×TypeId)) (ht:P.underlying t=some (.interface ms)):b5o P t (.const .nilIface)
theorem b2f(op:BinOp)(ho:op=.eql\/op=.neq)(t:TypeId){x x' y y':Value}(hx:VR S x x')(hy:VR S y y')(h:Im S P (fun a b=>b=a) (Op.equal t x y) (Op.equal t x' y')):Im S P (VR S) (binOp op t x y) (binOp op t x' y'):=by
 have k1:Im S P (VR S) (do pure (.bool (<-Op.equal t x y)):Sem Value) (do pure (.bool (<-Op.equal t x' y')):Sem Value):=Im.bind h fun a b e=>by subst e;exact Im.pure (.bool _)
 have k2:Im S P (VR S) (do pure (.bool (!(<-Op.equal t x y))):Sem Value) (do pure (.bool (!(<-Op.equal t x' y'))):Sem Value):=Im.bind h fun a b e=>by subst e;exact Im.pure (.bool _)
 rcases ho with rfl|rfl
 ·cases hx<;>cases hy<;>first|exact a6c _ _ _ _ _ _|exact k1|exact a3K .eql _ _
 ·cases hx<;>cases hy<;>first|exact a6c _ _ _ _ _ _|exact k2|exact a3K .neq _ _
theorem b8u{β β':Type}{Q:β->β'->Prop}{l l':List Value}(hl:LR (VR S) l l'){b:β}{b':β'}(hb:Q b b'){f:Value->β->Sem (ForInStep β)}{f':Value->β'->Sem (ForInStep β')}
 (hf:∀x x' b b',VR S x x'->Q b b'->Im S P (fun r r'=>(∃c c',r=.yield c/\r'=.yield c'/\Q c c')\/∃c c',r=.done c/\r'=.done c'/\Q c c') (f x b) (f' x' b')):
 Im S P Q (forIn l b f) (forIn l' b' f'):=by
 induction hl generalizing b b' with
 | nil=>simp only[List.forIn_nil];exact Im.pure hb
 | cons hx _ ih=>
  simp only[List.forIn_cons];refine Im.bind (hf _ _ _ _ hx hb) ?_;rintro r r' (⟨c,c',rfl,rfl,h⟩|⟨c,c',rfl,rfl,h⟩)
  ·exact ih h
  ·exact Im.pure h
theorem a6d{x x':Value}(hx:VR S x x'):Im S P (VR S) (Conv.bytesToString x) (Conv.bytesToString x'):=by
 unfold Conv.bytesToString
 cases hx with
 | snil=>exact Im.pure (.string _)
 | slice a n c ha=>
  dsimp only;refine Im.bind (a3a ha _) ?_;intro cs cs' hc;refine Im.bind (R:=fun a b=>b=a) ?_ ?_
  ·rw[<-Array.forIn_toList,<-Array.forIn_toList];refine b8u (Q:=fun a b=>b=a) hc.list rfl ?_;rintro y y' s _ hy rfl
   cases hy with
   | int k m=>cases k<;>first|exact Im.pure (.inl ⟨_,_,rfl,rfl,rfl⟩)|exact A7 _ _
   | _=>exact A7 _ _
  ·rintro s _ rfl;exact Im.pure (.string _)
 | _=>exact A7 _ _
inductive c3a(P:Program)(s d:TypeId):Prop
 | int (k k':IntKind) (hs:P.underlying s=some (.int k)) (hd:P.underlying d=some (.int k'))
 | bytes (e:TypeId) (hs:P.underlying s=some (.slice e)) (he:P.underlying e=some (.int .u8)) (hd:P.underlying d=some .string)
theorem b3H{s d:TypeId}(h:c3a P s d){x x':Value}(hx:VR S x x'):Im S P (VR S) (convert s d x) (convert s d x'):=by
 unfold convert;refine Im.bind (D8 s) ?_;rintro _ ts ⟨rfl,h1⟩;refine Im.bind (D8 d) ?_;rintro _ td ⟨rfl,h2⟩
 cases h with
 | int k k' hs hd=>
  rw[hs] at h1;injection h1 with h1;subst h1;rw[hd] at h2;injection h2 with h2;subst h2
  cases hx<;>first|exact Im.pure (.int _ _)|exact y9 _ _
 | bytes e hs he hd=>
  rw[hs] at h1;injection h1 with h1;subst h1;rw[hd] at h2;injection h2 with h2;subst h2;have key:∀{x x':Value},VR S x x'->Im S P (VR S) (do match <-underlying e with|.int .u8=>Conv.bytesToString x|.int .i32=>Conv.runesToString x|_=>stuck "Convert: a slice of what to string?":Sem Value) (do match <-underlying e with|.int .u8=>Conv.bytesToString x'|.int .i32=>Conv.runesToString x'|_=>stuck "Convert: a slice of what to string?":Sem Value):=by
   intro x x' hx;refine Im.bind (D8 e) ?_;rintro _ te ⟨rfl,h3⟩;rw[he] at h3;injection h3 with h3;subst h3;exact a6d hx
  cases hx with
  | int k n=>exact Im.pure (.string _)
  | string s=>exact Im.pure (.string _)
  | _=>exact key (by constructor<;>assumption)
end
section
variable{S:Sit}{P:Program}
theorem c3b(ts:Array TypeId)(t:TypeId){e:TypeId}(ht:∀u,ts[0]?=some u->P.underlying u=some (.slice e)){args args':Array Value}(h:AR S args args'):Im S P (VR S) (Builtin.len_ ts t args) (Builtin.len_ ts t args'):=by
 unfold Builtin.len_
 cases h0:ts[0]? with
 | none=>exact A7 _ _
 | some u=>
  rcases h.get? 0 with⟨e1,e2⟩|⟨x,x',e1,e2,hx⟩
  ·rw[e1,e2];exact A7 _ _
  ·rw[e1,e2];dsimp only;refine Im.bind (D8 u) ?_;rintro _ d ⟨rfl,hd⟩;rw[ht u h0] at hd;injection hd with hd;subst hd;cases hx<;>first|exact Im.pure (.int _ _)|exact A7 _ _
theorem a5j{x x':Value}(h:VR S x x'):Im S P (fun a b=>b=a) (Builtin.lenOf x) (Builtin.lenOf x'):=by
 cases h<;>first|exact Im.pure rfl|exact A7 _ _
theorem b8v(s:ByteArray)(n:Nat):AR S ((s.extract 0 n).data.map fun b=>.int .u8 b.toNat) ((s.extract 0 n).data.map fun b=>.int .u8 b.toNat):=
 ⟨rfl,fun i h1 h2=>by simp only[Array.getElem_map];exact .int _ _⟩
theorem U9(size n:Nat){x x':Value}(h:VR S x x'):Im S P (AR S) (Builtin.firstCells size n x) (Builtin.firstCells size n x'):=by
 cases h with
 | snil=>exact Im.pure AR.nil
 | slice a l c ha=>exact a3a ha _
 | string s=>exact Im.pure (b8v s n)
 | _=>exact A7 _ _
theorem a0U{z z':Array Value}(h:AR S z z')(n:Nat):AR S (Builtin.zeroCells z n) (Builtin.zeroCells z' n):=by
 unfold Builtin.zeroCells;rw[h.size];exact h.size▸a4C h (n*z.size)
theorem a2n{α β:Type}{R:α->β->Prop}(size sLen n c:Nat){base base':Option Addr}(hb:VR S (.slice base sLen c) (.slice base' sLen c)){x x':Value}(hx:VR S x x'){f:Bool->Sem α}{f':Bool->Sem β}(hf:∀b,Hs P (f b))(him:∀b,Im S P R (f b) (f' b)):
 Im S P R (Builtin.mayShare size sLen n base x >>= f) (Builtin.mayShare size sLen n base' x' >>= f'):=by
 have key:∀{s:Sem α}{r:Nat}{k:Option (TypeId×Nat)->Sem α}{s':Sem β},s=.shape r k->Hs P s->Im S P R s s':=by
  rintro _ r k s' rfl h;exact Im.shape_hs h
 cases hb with
 | snil=>
  cases hx with
  | slice b l c hb=>exact key (r:=b.block) rfl (Hs.behind _ hf)
  | _=>exact him false
 | slice a l c ha=>exact key (r:=a.block) rfl (Hs.behind _ hf)
theorem b0X{α:Type}(b:Bool)(x:Unsupported):Hs P (if (!b)=true then do mark .noRoom;(unsupported x:Sem α) else unsupported x):=by
 cases b<;>exact(trivial:Hs P (unsupported x:Sem α))
theorem b0Y{α β:Type}{R:α->β->Prop}(b:Bool)(x:Unsupported):Im S P R (if (!b)=true then do mark .noRoom;(unsupported x:Sem α) else unsupported x) (if (!b)=true then do mark .noRoom;(unsupported x:Sem β) else unsupported x):=
 a0j _ (fun _=>Im.bind (b5n trivial) fun _ _ _=>y9 _ _) fun _=>y9 _ _
theorem b6f(ts:Array TypeId)(t:TypeId){e:TypeId}(ht:∀u,ts[0]?=some u->P.underlying u=some (.slice e))(hz:ZOK S P e){e':TypeId}(ht':∀u,ts[1]?=some u->P.underlying u=some (.slice e'))
 {args args':Array Value}(h:AR S args args'):Im S P (VR S) (Builtin.append_ ts t args) (Builtin.append_ ts t args'):=by
 unfold Builtin.append_
 cases h0:ts[0]? with
 | none=>exact A7 _ _
 | some u=>
  rcases h.get? 0 with⟨e1,e2⟩|⟨s,s',e1,e2,hs⟩
  ·rw[e1,e2];exact A7 _ _
  rcases h.get? 1 with⟨e3,e4⟩|⟨x,x',e3,e4,hx⟩
  ·rw[e1,e2,e3,e4];exact A7 _ _
  rw[e1,e2,e3,e4];dsimp only;refine Im.bind (D8 u) ?_;rintro _ d ⟨rfl,hd⟩;rw[ht u h0] at hd;injection hd with hd;subst hd;dsimp only;have hs0:=hs;have hz0:∀n,Im S P (AR S) (do pure (Builtin.zeroCells (<-zeroValue e).cells n):Sem (Array Value)) (do pure (Builtin.zeroCells (<-zeroValue e).cells n)):=fun n=>Im.bind (X7 e hz) fun z z' hz=>Im.pure (a0U hz.cells n);have hpan:∀{α β α':Type}{R:α->β->Prop}(er:RuntimeError)(he:eOK er)(g:α'->Sem α)(g':α'->Sem β),Im S P R (runtimePanic er >>= g) (runtimePanic er >>= g'):=fun er he g g'=>Im.bind (R:=fun _ _=>False) (P6 er he) fun _ _ h=>h.elim
  cases hs with
  | snil l c=>
   cases h1:ts[1]? with
   | none=>
    dsimp only;refine Im.bind (U1 _) ?_;rintro size _ rfl;simp only[Bool.false_eq_true,if_false,Bool.not_false,if_true,pure_bind,false_or]
    repeat' first
     | with_reducible exact Im.pure (.snil _ _)
     | with_reducible exact Im.pure (.slice _ _ _ (by assumption))
     | (with_reducible refine Im.bind (X6 _) ?_;rintro _ _ ⟨rfl,_⟩)
     | (with_reducible refine Im.bind (a5j hx) ?_;rintro _ _ rfl)
     | (with_reducible refine Im.bind (a2H _) ?_;rintro _ _ rfl)
     | (with_reducible refine Im.bind (a2Z _) ?_;intro _ _ _)
     | (with_reducible refine Im.bind (U9 _ _ hs0) ?_;intro old old' hold)
     | (with_reducible refine Im.bind (U9 _ _ hx) ?_;intro new new' hnew)
     | (with_reducible refine Im.bind (X7 e hz) ?_;intro z z' hzz)
     | (rw[<-a1Z];refine Im.bind (a0B (by rw[add_block];assumption) _ _ _ (AR.list (by assumption))) ?_;intro _ _ _)
     | (with_reducible refine Im.bind (a1R _ ((AR.append (by assumption) (by assumption)).append (a0U (VR.cells (by assumption)) _))) ?_;rintro _ _ ⟨_,rfl⟩)
     | (refine hpan _ ?_ _ _;trivial)
     | exact Im.bind (R:=fun _ _=>False) (a2n _ _ _ _ hs0 hx (fun b=>b0X b _) (fun b=>b0Y b _)) fun _ _ h=>h.elim
     | with_reducible refine a0j _ (fun _=>?_) fun _=>?_
   | some u1=>
    dsimp only;refine Im.bind (U1 _) ?_;rintro size _ rfl;refine Im.bind (D8 u1) ?_;rintro _ d ⟨rfl,hd⟩;rw[ht' u1 h1] at hd;injection hd with hd;subst hd;simp only[Bool.false_eq_true,if_false,Bool.not_false,if_true,pure_bind,false_or]
    repeat' first
     | with_reducible exact Im.pure (.snil _ _)
     | with_reducible exact Im.pure (.slice _ _ _ (by assumption))
     | (with_reducible refine Im.bind (X6 _) ?_;rintro _ _ ⟨rfl,_⟩)
     | (with_reducible refine Im.bind (a5j hx) ?_;rintro _ _ rfl)
     | (with_reducible refine Im.bind (a2H _) ?_;rintro _ _ rfl)
     | (with_reducible refine Im.bind (a2Z _) ?_;intro _ _ _)
     | (with_reducible refine Im.bind (U9 _ _ hs0) ?_;intro old old' hold)
     | (with_reducible refine Im.bind (U9 _ _ hx) ?_;intro new new' hnew)
     | (with_reducible refine Im.bind (X7 e hz) ?_;intro z z' hzz)
     | (rw[<-a1Z];refine Im.bind (a0B (by rw[add_block];assumption) _ _ _ (AR.list (by assumption))) ?_;intro _ _ _)
     | (with_reducible refine Im.bind (a1R _ ((AR.append (by assumption) (by assumption)).append (a0U (VR.cells (by assumption)) _))) ?_;rintro _ _ ⟨_,rfl⟩)
     | (refine hpan _ ?_ _ _;trivial)
     | exact Im.bind (R:=fun _ _=>False) (a2n _ _ _ _ hs0 hx (fun b=>b0X b _) (fun b=>b0Y b _)) fun _ _ h=>h.elim
     | with_reducible refine a0j _ (fun _=>?_) fun _=>?_
  | slice a l c ha=>
   cases h1:ts[1]? with
   | none=>
    dsimp only;refine Im.bind (U1 _) ?_;rintro size _ rfl;simp only[Bool.false_eq_true,if_false,Bool.not_false,if_true,pure_bind,false_or]
    repeat' first
     | with_reducible exact Im.pure (.snil _ _)
     | with_reducible exact Im.pure (.slice _ _ _ (by assumption))
     | (with_reducible refine Im.bind (X6 _) ?_;rintro _ _ ⟨rfl,_⟩)
     | (with_reducible refine Im.bind (a5j hx) ?_;rintro _ _ rfl)
     | (with_reducible refine Im.bind (a2H _) ?_;rintro _ _ rfl)
     | (with_reducible refine Im.bind (a2Z _) ?_;intro _ _ _)
     | (with_reducible refine Im.bind (U9 _ _ hs0) ?_;intro old old' hold)
     | (with_reducible refine Im.bind (U9 _ _ hx) ?_;intro new new' hnew)
     | (with_reducible refine Im.bind (X7 e hz) ?_;intro z z' hzz)
     | (rw[<-a1Z];refine Im.bind (a0B (by rw[add_block];assumption) _ _ _ (AR.list (by assumption))) ?_;intro _ _ _)
     | (with_reducible refine Im.bind (a1R _ ((AR.append (by assumption) (by assumption)).append (a0U (VR.cells (by assumption)) _))) ?_;rintro _ _ ⟨_,rfl⟩)
     | (refine hpan _ ?_ _ _;trivial)
     | exact Im.bind (R:=fun _ _=>False) (a2n _ _ _ _ hs0 hx (fun b=>b0X b _) (fun b=>b0Y b _)) fun _ _ h=>h.elim
     | with_reducible refine a0j _ (fun _=>?_) fun _=>?_
   | some u1=>
    dsimp only;refine Im.bind (U1 _) ?_;rintro size _ rfl;refine Im.bind (D8 u1) ?_;rintro _ d ⟨rfl,hd⟩;rw[ht' u1 h1] at hd;injection hd with hd;subst hd;simp only[Bool.false_eq_true,if_false,Bool.not_false,if_true,pure_bind,false_or]
    repeat' first
     | with_reducible exact Im.pure (.snil _ _)
     | with_reducible exact Im.pure (.slice _ _ _ (by assumption))
     | (with_reducible refine Im.bind (X6 _) ?_;rintro _ _ ⟨rfl,_⟩)
     | (with_reducible refine Im.bind (a5j hx) ?_;rintro _ _ rfl)
     | (with_reducible refine Im.bind (a2H _) ?_;rintro _ _ rfl)
     | (with_reducible refine Im.bind (a2Z _) ?_;intro _ _ _)
     | (with_reducible refine Im.bind (U9 _ _ hs0) ?_;intro old old' hold)
     | (with_reducible refine Im.bind (U9 _ _ hx) ?_;intro new new' hnew)
     | (with_reducible refine Im.bind (X7 e hz) ?_;intro z z' hzz)
     | (rw[<-a1Z];refine Im.bind (a0B (by rw[add_block];assumption) _ _ _ (AR.list (by assumption))) ?_;intro _ _ _)
     | (with_reducible refine Im.bind (a1R _ ((AR.append (by assumption) (by assumption)).append (a0U (VR.cells (by assumption)) _))) ?_;rintro _ _ ⟨_,rfl⟩)
     | (refine hpan _ ?_ _ _;trivial)
     | exact Im.bind (R:=fun _ _=>False) (a2n _ _ _ _ hs0 hx (fun b=>b0X b _) (fun b=>b0Y b _)) fun _ _ h=>h.elim
     | with_reducible refine a0j _ (fun _=>?_) fun _=>?_
  | _=>exact A7 _ _
end
section
variable{S:Sit}{P:Program}
def b2g(S:Sit):Operand->Prop
 | .tmp _=>True
 | .const v=>VR S v v
 | .global _=>False
 | .func f=>S.F f
def b8w(S:Sit)(P:Program)(c:Call):Prop:=
 match c.callee with
 | .value (.func f)=>S.F f
 | .builtin .len=>∃e,∀u,c.argTypes[0]?=some u->P.underlying u=some (.slice e)
 | .builtin .append=>∃e e',(∀u,c.argTypes[0]?=some u->P.underlying u=some (.slice e))/\ZOK S P e/\∀u,c.argTypes[1]?=some u->P.underlying u=some (.slice e')
 | _=>False
def OpB(S:Sit)(P:Program):Op->Prop
 | .move _|.assign _|.pick .. | .load .. | .store .. | .nilCheck _|.extract .. | .indexAddr .. | .slice .. | .unOp ..=>True
 | .alloc t=>ZOK S P t
 | .build t _=>ZOK S P t
 | .buildSlice t _ _=>∀e,P.underlying t=some (.slice e)->ZOK S P e
 | .binOp op t _ y _=>c1b op=true\/((op=.eql\/op=.neq)/\b5o P t y)
 | .convert s d _=>c3a P s d
 | .makeInterface t _=>S.T t
 | .fieldAddr s _ f=>∀fs g i,P.underlying s=some (.struct fs)->fs[f]?=some g->P.info? g.type=some i->i.size≠0
 | .call c=>b8w S P c
 | _=>False
inductive a5k(S:Sit):Next->Next->Prop
 | value (v v':Value) (h:VR S v v'):a5k S (.value v) (.value v')
 | skip:a5k S .skip .skip
 | enter (f:FuncId) (args args':Array Value) (hf:S.F f) (h:AR S args args'):a5k S (.enter f args) (.enter f args')
theorem a4z{s s':Sem Value}(h:Im S P (VR S) s s'):Im S P (a5k S) (do pure (.value (<-s))) (do pure (.value (<-s'))):=Im.bind h fun _ _ hv=>Im.pure (.value _ _ hv)
theorem c5n{s s':Sem Unit}(h:Im S P (fun _ _=>True) s s'):Im S P (a5k S) (do s;pure .skip) (do s';pure .skip):=Im.bind h fun _ _ _=>Im.pure .skip
structure PQB(S:Sit)(P:Program):Prop extends PQG S P where
 body:∀f,S.F f->∃fn,P.funcs[f]?=some fn/\fn.body.isNone=false/\(fn.name== "runtime.NumGoroutine")=false
theorem PQB.pok(h:PQB S P):POK S P:=⟨h.inj⟩
theorem b2h(hP:PQB S P){f:FuncId}(hf:S.F f){args args':Array Value}(h:AR S args args'):Im S P (a5k S) (callFunc f args) (callFunc f args'):=by
 obtain⟨fn,h1,h2,h3⟩:=hP.body f hf;unfold callFunc;refine Im.bind Y4 ?_;rintro p p' ⟨h0,h0'⟩;rw[h0,h0',h1];dsimp only;rw[h3,h2];exact Im.pure (.enter f _ _ hf h)
theorem c3c{l:Array Operand}{ρ ρ':Operand->Value}(h:∀x∈l,VR S (ρ x) (ρ' x)):AR S (l.map ρ) (l.map ρ'):=
 ⟨by simp,fun i h1 h2=>by simp only[Array.getElem_map];exact h _ (Array.getElem_mem _)⟩
theorem b3I{l:Option Operand}{ρ ρ':Operand->Value}(h:∀x,l=some x->VR S (ρ x) (ρ' x)):OR S (l.map ρ) (l.map ρ'):=by
 cases l with
 | none=>exact .none
 | some x=>exact .some (h x rfl)
theorem b2i{ps:Array (Nat×Operand)}{ρ ρ':Operand->Value}(h:∀p∈ps,VR S (ρ p.2) (ρ' p.2)):LR (PR (S:=S)) (ps.map fun(i,x)=>(i,ρ x)).toList (ps.map fun(i,x)=>(i,ρ' x)).toList:=by
 obtain⟨l⟩:=ps;simp only[List.map_toArray]
 induction l with
 | nil=>exact .nil
 | cons p l ih=>
  exact .cons ⟨rfl,h p (by simp)⟩ (ih fun q hq=>h q (by simp at hq⊢;exact .inr hq))
theorem b6g(hP:PQB S P){ρ ρ':Operand->Value}{o:Oper}(hk:OpB S P o.op)(hρ:∀x∈o.op.operands,VR S (ρ x) (ρ' x))(hc:∀v,ρ (.const v)=v/\ρ' (.const v)=v)(hfn:∀f,ρ (.func f)=.func (.func f) #[] #[]/\ρ' (.func f)=.func (.func f) #[] #[]):
 Im S P (a5k S) (execOp ρ o) (execOp ρ' o):=by
 obtain⟨dst,op,type,pos,after,guard⟩:=o;dsimp only at hk hρ;have hv:∀x,x∈op.operands->VR S (ρ x) (ρ' x):=hρ;unfold execOp
 cases op with
 | move x=>exact Im.pure (.value _ _ (hv x (by simp[Op.operands])))
 | assign x=>exact Im.pure (.value _ _ (hv x (by simp[Op.operands])))
 | pick c a b=>
  refine Im.bind (b59 (hv c (by simp[Op.operands]))) ?_;rintro t _ rfl;refine Im.pure (.value _ _ ?_);split
  ·exact hv a (by simp[Op.operands])
  ·exact hv b (by simp[Op.operands])
 | alloc e=>exact a4z (b8m _ hk)
 | build t ps=>
  refine a4z (b8o _ hk (b2i fun p hp=>hv p.2 ?_))
  simp[Op.operands];exact⟨p.1,by simpa using hp⟩
 | buildSlice t l ps=>
  refine a4z (a9g _ hk _ (b2i fun p hp=>hv p.2 ?_))
  simp[Op.operands];exact⟨p.1,by simpa using hp⟩
 | load t a=>exact a4z (b6b _ (hv a (by simp[Op.operands])))
 | store t a x=>exact c5n (b3B _ (hv a (by simp[Op.operands])) (hv x (by simp[Op.operands])))
 | nilCheck x=>
  have h:=hv x (by simp[Op.operands]);dsimp only;generalize ρ x=v at h;generalize ρ' x=v' at h;have h0:=h
  cases h with
  | pnil=>exact P6 _ trivial
  | nilIface=>exact P6 _ trivial
  | func fn fn' f f' c c' hf=>cases hf;exact Im.pure (.value _ _ h0)
  | _=>exact Im.pure (.value _ _ h0)
 | binOp op t x y u=>
  have hx:=hv x (by simp[Op.operands]);have hy:=hv y (by simp[Op.operands]);rcases hk with hk|⟨hk,hcmp⟩
  ·refine a4z (Im.bind (R:=fun _ _=>True) ?_ fun _ _ _=>b8s hP.toPGK _ hk _ hx hy);cases op<;>first|exact absurd hk (by decide)|exact Im.pure trivial
  ·cases hcmp with
   | int k ht=>exact a4z (Im.bind (b2d _ _ ht _ _ hx hy) fun _ _ _=>b2f _ hk _ hx hy (c4i hP.toPQG _ ht hx hy))
   | nil ms ht=>
    dsimp only;rw[(hc .nilIface).1,(hc .nilIface).2] at hy⊢
    exact a4z (Im.bind (b2e _ _ _ hx) fun _ _ _=>b2f _ hk _ hx hy (b8t _ ht hx))
 | unOp op t x=>exact a4z (b8r _ (hv x (by simp[Op.operands])))
 | convert s d x=>exact a4z (b3H hk (hv x (by simp[Op.operands])))
 | makeInterface t x=>exact a4z (a6b _ hk (hv x (by simp[Op.operands])))
 | slice t x l h m=>exact a4z (b3E hP.pok _ (hv x (by simp[Op.operands])) (b3I fun y e=>hv y (by simp[Op.operands,e])) (b3I fun y e=>hv y (by simp[Op.operands,e])) (b3I fun y e=>hv y (by simp[Op.operands,e])))
 | fieldAddr s x f=>exact a4z (b3C _ _ hk (hv x (by simp[Op.operands])))
 | indexAddr t x i=>exact a4z (b3D hP.pok _ (hv x (by simp[Op.operands])) (hv i (by simp[Op.operands])))
 | extract x i=>exact a4z (b3F _ (hv x (by simp[Op.operands])))
 | call c=>
  obtain⟨callee,args,tys⟩:=c;have ha:AR S (args.map ρ) (args.map ρ'):=c3c fun x hx=>hv x (by simp[Op.operands,Call.operands,hx])
  cases callee with
  | value f=>
   cases f with
   | func f=>
    unfold resolve;dsimp only;rw[(hfn f).1,(hfn f).2];show Im S P (a5k S) (callFunc f ((#[]++args.map ρ)++#[])) (callFunc f ((#[]++args.map ρ')++#[]));simp only[Array.empty_append,Array.append_empty]
    exact b2h hP hk ha
   | _=>exact hk.elim
  | invoke r n=>exact hk.elim
  | builtin b=>
   cases b<;>first|exact(hk:False).elim|skip
   ·obtain⟨e,e',h1,h2,h3⟩:=hk;exact a4z (b6f _ _ h1 h2 h3 ha)
   ·obtain⟨e,h1⟩:=hk
    exact a4z (c3b _ _ h1 ha)
 | _=>exact hk.elim
end
section
open Zn (ext low kk Gr K0 Nx)
variable{S:Sit}{P:Program}
structure SLe(S S':Sit):Prop where
 F:S'.F=S.F
 T:S'.T=S.T
 D:∀b,S.D b->S'.D b
 ren:∀b,S.D b->S'.ren b=S.ren b
 W:∀b,S.W b->S'.W b
 old:∀b,S.D b->S'.W b->S.W b
 k:S'.K=S.K/\S'.Kd=S.Kd/\S'.Kk=S.Kk
theorem SLe.refl(S:Sit):SLe S S:=⟨rfl,rfl,fun _ h=>h,fun _ _=>rfl,fun _ h=>h,fun _ _ h=>h,rfl,rfl,rfl⟩
theorem SLe.trans{A B C:Sit}(h:SLe A B)(k:SLe B C):SLe A C:=
 ⟨k.F.trans h.F,k.T.trans h.T,fun b x=>k.D b (h.D b x),fun b x=>(k.ren b (h.D b x)).trans (h.ren b x),fun b x=>k.W b (h.W b x),fun b x y=>h.old b x (k.old b (h.D b x) y),k.k.1.trans h.k.1,k.k.2.1.trans h.k.2.1,k.k.2.2.trans h.k.2.2⟩
section
variable{S':Sit}(hL:SLe S S')
include hL
theorem SLe.rA{a:Addr}(h:S.D a.block):Bi.rA S' a=Bi.rA S a:=by unfold Bi.rA;rw[hL.ren _ h]
theorem VR.mono{v v':Value}(h:VR S v v'):VR S' v v':=by
 induction h with
 | bool b=>exact .bool b
 | int k n=>exact .int k n
 | string s=>exact .string s
 | pnil=>exact .pnil
 | ptr a h=>rw[<-hL.rA h];exact .ptr a (hL.D _ h)
 | snil n c=>exact .snil n c
 | slice a n c h=>rw[<-hL.rA h];exact .slice a n c (hL.D _ h)
 | func fn fn' f f' c c' h hf _ hc _ ihf ihc=>
  refine .func fn fn' f f' c c' ?_ hf ihf hc ihc
  cases h with
  | func f h=>exact .func f (hL.F▸h)
 | iface t v v' ht h ih=>exact .iface t v v' (hL.T▸ht) ih
 | nilIface=>exact .nilIface
 | agg c c' hc _ ih=>exact .agg c c' hc ih
 | tuple c c' hc _ ih=>exact .tuple c c' hc ih
theorem AR.mono{c c':Array Value}(h:AR S c c'):AR S' c c':=⟨h.size,fun i h1 h2=>(h.at_ i h1 h2).mono hL⟩
theorem a7v.mono{o o':Obj}(h:a7v S o o'):a7v S' o o':=by
 cases h with
 | cells c c' e fr fr' h hf=>exact .cells _ _ _ _ _ (h.mono hL) hf
 | number a l h=>rw[<-hL.rA h];exact .number _ _ (hL.D _ h)
theorem ZOK.mono{t:TypeId}(h:ZOK S P t):ZOK S' P t:=fun i z hi hz=>(h i z hi hz).mono hL
theorem b2g.mono{x:Operand}(h:b2g S x):b2g S' x:=by
 cases x with
 | tmp t=>trivial
 | const v=>exact VR.mono hL h
 | global g=>exact h
 | func f=>exact(hL.F▸h:S'.F f)
theorem OpB.mono{o:Op}(h:OpB S P o):OpB S' P o:=by
 cases o
 case alloc t=>exact ZOK.mono hL h
 case build t ps=>exact ZOK.mono hL h
 case buildSlice t n ps=>exact fun e he=>ZOK.mono hL (h e he)
 case makeInterface t x=>exact(show S'.T t by rw[hL.T];exact h)
 case call c=>
  obtain⟨callee,args,tys⟩:=c
  cases callee with
  | value f=>
   cases f with
   | func f=>exact(show S'.F f by rw[hL.F];exact h)
   | _=>exact h.elim
  | invoke r n=>exact h.elim
  | builtin b=>
   cases b<;>first|exact(h:False).elim|skip
   ·obtain⟨e,e',h1,h2,h3⟩:=h;exact⟨e,e',h1,h2.mono hL,h3⟩
   ·exact h
 all_goals exact h
end
def Cur(S:Sit)(w:World):Prop:=∀b,S.D b->b<w.heap.size
def Sit.up(S:Sit)(n n' m:Nat):Sit:={ren:=fun b=>if b<n then S.ren b else n'+(b - n),D:=fun b=>S.D b\/(n<=b/\b<n+m),F:=S.F,T:=S.T,W:=fun b=>S.W b\/(n<=b/\b<n+m),K:=S.K,Kd:=S.Kd,Kk:=S.Kk}
theorem c2H{w:World}(hc:Cur S w)(n' m:Nat):SLe S (S.up w.heap.size n' m):=
 ⟨rfl,rfl,fun b h=>.inl h,fun b h=>if_pos (hc b h),fun b h=>.inl h,fun b h k=>k.elim id fun k=>absurd (hc b h) (by omega),rfl,rfl,rfl⟩
theorem c2I{w w':World}(hc:Cur S w)(hW:WR S w w')(m:Nat):WR (S.up w.heap.size w'.heap.size m) w w':=by
 have im:∀b,S.D b->S.ren b<w'.heap.size:=fun b hb=>by
  obtain⟨_,_,_,h,_⟩:=hW.obj b hb (hc b hb);exact lt_of_some h
 refine⟨fun a b ha hb e=>?_,fun b hb hD=>?_,fun b hb hlt=>?_,fun b c e fr hb hn ho=>?_⟩
 ·unfold Sit.up at ha hb e;dsimp only at ha hb e;rcases ha with ha|ha<;>rcases hb with hb|hb
  ·rw[if_pos (hc a ha),if_pos (hc b hb)] at e;exact hW.inj a b ha hb e
  ·rw[if_pos (hc a ha),if_neg (by omega)] at e;have:=im a ha;omega
  ·rw[if_pos (hc b hb),if_neg (by omega)] at e;have:=im b hb;omega
  ·rw[if_neg (by omega),if_neg (by omega)] at e;omega
 ·unfold Sit.up;dsimp only;rw[if_neg (by omega)];omega
 ·rcases hb with hb|hb
  ·obtain⟨o,o',h1,h2,h3⟩:=hW.obj b hb hlt;refine⟨o,o',h1,?_,h3.mono (c2H hc _ _)⟩;show w'.heap[if b<w.heap.size then S.ren b else _]?=_;rw[if_pos hlt];exact h2
  ·omega
 ·have hb':S.D b:=by
   rcases hb with hb|hb
   ·exact hb
   ·have:=lt_of_some ho;omega
  exact hW.ro b c e fr hb' (fun h=>hn (.inl h)) ho
theorem c3d{w w':World}(hP:PQB S P)(hc:Cur S w)(hW:WR S w w')(h1:P.globals.size<=w.heap.size)(h2:P.globals.size<=w'.heap.size)(m:Nat):PQB (S.up w.heap.size w'.heap.size m) P:=by
 refine⟨⟨⟨fun b hb=>?_,(c2I hc hW m).inj⟩,fun b hb=>?_⟩,hP.body⟩
 ·rcases hb with hb|hb
  ·exact hP.high b hb
  ·omega
 ·show _<=if b<w.heap.size then S.ren b else _
  rcases hb with hb|hb
  ·rw[if_pos (hc b hb)];exact hP.high' b hb
  ·rw[if_neg (by omega)];omega
theorem both{α β:Type}{R:Sit->α->β->Prop}{s:Sem α}{s':Sem β}{w w' u:World}{a:α}(hP:PQB S P)(hc:Cur S w)(hW:WR S w w')(h1:P.globals.size<=w.heap.size)(h2:P.globals.size<=w'.heap.size)(ht:w'.tape=w.tape)(hd:w'.drawn=w.drawn)
 (h:∀S',SLe S S'->PQB S' P->Im S' P (R S') s s')(hr:s.run P w=.ok a u):
 ∃S' b u' es,s'.runT P w' #[]=(.ok b u',es)/\SLe S S'/\PQB S' P/\Cur S' u/\R S' a b/\WR S' u u'/\w.heap.size<=u.heap.size/\w'.heap.size<=u'.heap.size/\u'.tape=w'.tape/\u'.drawn=u.drawn/\u.tape=w.tape/\u'.os=w'.os/\u'.output=w'.output/\
  (∀e∈es,EvOK S' u'.heap.size e)/\(∀b,b<w'.heap.size->(∀a,S.D a->S.W a->S.ren a≠b)->u'.heap[b]?=w'.heap[b]?)/\(∀b,S'.D b->S'.W b->S.W b/\S.D b\/w'.heap.size<=S'.ren b)/\(∀b,S'.D b->S.D b\/S'.W b):=by
 have hsz:=b2a hr;have hL:=c2H hc w'.heap.size (u.heap.size - w.heap.size);have hP':=c3d hP hc hW h1 h2 (u.heap.size - w.heap.size);have hW':=c2I hc hW (u.heap.size - w.heap.size);obtain⟨b,u',new,e1,e2,e3,e4,e5⟩:=(h _ hL hP').run hW' hr (fun i hi=>⟨.inr ⟨by omega,by omega⟩,.inr ⟨by omega,by omega⟩,by
  show(if w.heap.size+i<w.heap.size then _ else _)=_;rw[if_neg (by omega)];omega⟩) (fun i q _=>by rw[ht,hd]) #[]
 have hdr:=a9V hr;refine⟨_,b,u',new,by simpa using e1,hL,hP',fun b hb=>?_,e2,e3,hsz,by have:=e4.size';omega,e4.tape',by have:=e4.drawn';omega,hdr.2,e4.os',e4.output',e5,fun b hb hn=>e4.old b hb fun a ha hWa hlt e=>?_,fun b hb hWb=>?_,fun b hb=>hb.imp id .inr⟩
 ·rcases hb with hb|hb
  ·have:=hc b hb;omega
  ·omega
 ·have hDa:S.D a:=ha.elim id fun x=>absurd x.1 (by omega);have hWa':S.W a:=hWa.elim id fun x=>absurd x.1 (by omega);refine hn a hDa hWa' ?_;rw[<-e];exact(if_pos hlt).symm
 ·rcases hb with hb|hb
  ·exact .inl ⟨hL.old b hb hWb,hb⟩
  ·right;show _<=if b<w.heap.size then _ else _
   rw[if_neg (by omega)];omega
end
end Go.Bi
