/- A part of what the last file proves. -/
import Derived.Test.YtgpbhjjajpbeeaaGreatDoorA10
set_option linter.all false
set_option maxRecDepth 100000
set_option maxHeartbeats 4000000
namespace Go.Bi
variable{V e t:bT}{a:dU}{x:Operand}{α β:Type}
section
variable{S:Sit}{P:Program}
theorem c79(ts:Array TypeId)(t:bT)(i:∀u,ts[0]?=some u->P.underlying u=some (.slice e)){args:dU}(h:AR S args a):Im S P (VR S) (Builtin.len_ ts t args) (Builtin.len_ ts t a):=by
 unfold Builtin.len_
 cases j:ts[0]? with
 | none=>exact G6 _ _
 | some u=>
  obtain⟨f,c⟩|⟨x,k,f,c,g⟩:=h.get? 0
  rw[f,c];apply G6
  rw[f,c];dsimp;apply dG (G5 u);rintro _ d ⟨rfl,b⟩;rw[i u j] at b;injection b with b;subst b;cases g<;>first|exact fA (.int _ _)|trivial
theorem c3h{x c:aX}(h:VR S x c):Im S P (λa b=>b=a) (Builtin.lenOf x) (Builtin.lenOf c):=by cases h<;>trivial
theorem c3i(s:ByteArray)(n:Nat):AR S ((s.extract 0 n).data.map λb=>.int .u8 b.toNat) ((s.extract 0 n).data.map λb=>.int .u8 b.toNat):=
 ⟨rfl,λi a c=>by simp;exact .int _ _⟩
theorem ZZ(b n:Nat){x d:aX}(h:VR S x d):Im S P (AR S) (Builtin.firstCells b n x) (Builtin.firstCells b n d):=by
 cases h with
 | jv=>exact fA AR.nil
 | slice a l c e=>apply Ge e
 | string s=>exact .pure<|c3i s n
 | _=>trivial
theorem V'{z:dU}(h:AR S z a)(n:Nat):AR S (Builtin.zeroCells z n) (Builtin.zeroCells a n):=by unfold Builtin.zeroCells;exact h.size▸Z3 h (n*z.size)
theorem b44{R:α->β->Prop}(g d n c:Nat){i e:Option Addr}(o:VR S (.slice i d c) (.slice e d c)){x u:aX}(v:VR S x u){f:Bool->Sem α}{t:Bool->Sem β}(q:∀b,Hs P (f b))(m:∀b,Im S P R (f b) (t b)):
 Im S P R (Builtin.mayShare g d n i x >>= f) (Builtin.mayShare g d n e u >>= t):=by
 have j:∀{s:Sem α}{r:Nat}{k:Option _->Sem α}{p:Sem β},s=.shape r k->Hs P s->Im S P R s p:=by rintro _ r k p rfl h;exact Im.um h
 cases o with
 | jv=>
  cases v with
  | slice=>exact j rfl<|Hs.behind _ q
  | _=>apply m
 | slice=>exact j rfl<|Hs.behind _ q
theorem c8a(b:Bool)(x:Unsupported):Hs P (if (!b)=true then do mark .noRoom;(unsupported x:Sem α) else unsupported x):=by cases b<;>exact(trivial:Hs P (unsupported x))
def c8b{R:α->β->Prop}(b:Bool)(x:Unsupported):Im S P R (if (!b)=true then do mark .noRoom;(unsupported x:Sem α) else unsupported x) (if (!b)=true then do mark .noRoom;(unsupported x:Sem β) else unsupported x):=
 wY _ (λ_=>.bind (pi trivial) λ_ _ _=>C9 _ _) λ_=>C9 _ _
def Zz{p:Prop}(h:p:=by repeat' first|with_reducible exact fA (.jv _ _)|with_reducible exact fA (.slice _ _ _ (kT))|(with_reducible refine dG (Qz _) ?_;rintro _ _ ⟨rfl,_⟩)|(with_reducible refine dG (c3h j) ?_;rintro _ _ rfl)|(with_reducible refine dG (A1 _) ?_;rintro _ _ rfl)|(with_reducible refine dG (b6F _) ?_;intro _ _ _)|(with_reducible refine dG (ZZ _ _ f) ?_;intro w p k)|(with_reducible refine dG (ZZ _ _ j) ?_;intro y o r)|(with_reducible refine dG (XA e A) ?_;intro z I v)|(rw[<-Jh];refine dG (a5U bz _ _ _ (AR.list (kT))) ?_;intro _ _ _)|(with_reducible refine dG (AW _ ((AR.append (kT) (kT)).append (V' (VR.cells (kT)) _))) ?_;rintro _ _ ⟨_,rfl⟩)|(refine G _ ?_ _ _;trivial)|exact dG (R:=λ_ _=>False) (b44 _ _ _ _ f j (λb=>c8a b _) (λb=>c8b b _)) λ_ _ h=>h.elim|with_reducible refine wY _ (λ_=>?_) λ_=>?_):p:=h
theorem b9T(ts:Array TypeId)(t:bT)(Q:∀u,ts[0]?=some u->P.underlying u=some (.slice e))(A:pF S P e)(B:∀u,ts[1]?=some u->P.underlying u=some (.slice V))
 {args q:dU}(h:AR S args q):Im S P (VR S) (Builtin.append_ ts t args) (Builtin.append_ ts t q):=by
 unfold Builtin.append_
 cases U:ts[0]? with
 | none=>exact G6 _ _
 | some u=>
  obtain⟨F,H⟩|⟨s,Y,F,H,M⟩:=h.get? 0
  ·rw[F,H];exact G6 _ _
  obtain⟨L,J⟩|⟨x,W,L,J,j⟩:=h.get? 1
  ·rw[F,H,L,J];exact G6 _ _
  rw[F,H,L,J];dsimp only;refine dG (G5 u) ?_;rintro _ d ⟨rfl,i⟩;rw[Q u U] at i;injection i with i;subst i;dsimp only;have f:=M;have T:∀n,Im S P (AR S) (do pure (Builtin.zeroCells (<-zeroValue e).cells n):Sem (Array Value)) (do pure (Builtin.zeroCells (<-zeroValue e).cells n)):=λn=>dG (XA e A) λz I A=>fA (V' A.cells n);have G:∀{α β E:Type}{R:α->β->Prop}(C:RuntimeError)(O:bo C)(g:E->Sem α)(N:E->Sem β),Im S P R (runtimePanic C >>= g) (runtimePanic C >>= N):=λC O g N=>dG (R:=λ_ _=>False) (XD C O) λ_ _ h=>h.elim
  cases M with
  | jv l c=>
   cases K:ts[1]? with
   | none=>
    dsimp only;refine dG (U7 _) ?_;rintro m _ rfl;simp only[dY,if_false,tK,if_true,pure_bind,false_or]
    exact Zz
   | some D=>
    dsimp only;refine dG (U7 _) ?_;rintro m _ rfl;refine dG (G5 D) ?_;rintro _ d ⟨rfl,i⟩;rw[B D K] at i;injection i with i;subst i;simp only[dY,if_false,tK,if_true,pure_bind,false_or]
    exact Zz
  | slice a l c X=>
   cases K:ts[1]? with
   | none=>
    dsimp only;refine dG (U7 _) ?_;rintro m _ rfl;simp only[dY,if_false,tK,if_true,pure_bind,false_or]
    exact Zz
   | some D=>
    dsimp only;refine dG (U7 _) ?_;rintro m _ rfl;refine dG (G5 D) ?_;rintro _ d ⟨rfl,i⟩;rw[B D K] at i;injection i with i;subst i;simp only[dY,if_false,tK,if_true,pure_bind,false_or]
    exact Zz
  | _=>exact G6 _ _
end
section
variable{S:Sit}{P:Program}
def Ja(S:Sit):Operand->Prop
 | .tmp _=>True
 | .const v=>VR S v v
 | .global _=>False
 | .func f=>S.F f
def rz(S:Sit)(P:Program)(c:Call):Prop:=
 match c.callee with
 | .value (.func f)=>S.F f
 | .builtin .len=>∃e,∀u,c.argTypes[0]?=some u->P.underlying u=some (.slice e)
 | .builtin .append=>∃e a,(∀u,c.argTypes[0]?=some u->P.underlying u=some (.slice e))/\pF S P e/\∀u,c.argTypes[1]?=some u->P.underlying u=some (.slice a)
 | _=>False
def MW(S:Sit)(P:Program):Op->Prop
 | .move _|.assign _|.pick .. | .load .. | .store .. | .nilCheck _|.extract .. | .indexAddr .. | .slice .. | .unOp ..=>True
 | .alloc t=>pF S P t
 | .build t _=>pF S P t
 | .buildSlice t _ _=>∀e,P.underlying t=some (.slice e)->pF S P e
 | .binOp a t _ y _=>Y_ a=true\/((a=.eql\/a=.neq)/\Zj P t y)
 | .convert s d _=>qq P s d
 | .makeInterface t _=>S.T t
 | .fieldAddr s _ f=>∀b g i,P.underlying s=some (.struct b)->b[f]?=some g->P.info? g.type=some i->i.size≠0
 | .call c=>rz S P c
 | _=>False
inductive GL(S:Sit):Next->Next->Prop
 | value (v v':Value) (h:VR S v v'):GL S (.value v) (.value v')
 | skip:GL S .skip .skip
 | enter (f:FuncId) (args args':Array Value) (hf:S.F f) (h:AR S args args'):GL S (.enter f args) (.enter f args')
def u_{s s':Sem Value}(h:Im S P (VR S) s s'):Im S P (GL S) (do pure (.value (<-s))) (do pure (.value (<-s'))):=.bind h λ_ _ a=>.pure<|.value _ _ a
def d0e{s s':Sem Unit}(h:Im S P (λ_ _=>True) s s'):Im S P (GL S) (do s;pure .skip) (do s';pure .skip):=.bind h λ_ _ _=>.pure .skip
structure sZ(S:Sit)(P:Program):Prop extends PQG S P where
 body:∀f,S.F f->∃fn,P.funcs[f]?=some fn/\fn.body.isNone=false/\(fn.name== "runtime.NumGoroutine")=false
def sZ.RG(h:sZ S P):POK S P:=⟨h.inj⟩
theorem b46(e:sZ S P){f:FuncId}(c:S.F f){args:dU}(h:AR S args a):Im S P (GL S) (callFunc f args) (callFunc f a):=by let⟨l,j,d,g⟩:=e.body f c;apply dG Ew;rintro p k ⟨i,b⟩;rw[i,b,j];dsimp;rw[g,d];exact .pure<|.enter f _ _ c h
def c8c{l:Array Operand}{ρ a:Operand->Value}(h:∀x∈l,VR S (ρ x) (a x)):AR S (l.map ρ) (l.map a):=
 ⟨aZ,λi b c=>fU⟩
theorem sR{l:Option Operand}{ρ a:Operand->Value}(h:∀x,l=some x->VR S (ρ x) (a x)):OR S (l.map ρ) (l.map a):=by
 cases l with
 | none=>exact .none
 | some x=>exact .some<|h x rfl
theorem ve{b:Array (Nat×Operand)}{ρ a:Operand->Value}(h:∀p∈b,VR S (ρ p.2) (a p.2)):LR (PR (S:=S)) (b.map λ(i,x)=>(i,ρ x)).toList (b.map λ(i,x)=>(i,a x)).toList:=by
 obtain⟨l⟩:=b;simp only[fM]
 induction l with
 | nil=>exact .nil
 | cons p l d=>exact .cons ⟨rfl,h p aZ⟩ (d λq c=>h q (by simp at c⊢;exact .inr c))
theorem b9U(D:sZ S P){ρ q:Operand->Value}{o:Oper}(j:MW S P o.op)(F:∀x∈o.op.operands,VR S (ρ x) (q x))(O:∀v,ρ (.const v)=v/\q (.const v)=v)(G:∀f,ρ (.func f)=.func (.func f) #[] #[]/\q (.func f)=.func (.func f) #[] #[]):
 Im S P (GL S) (execOp ρ o) (execOp q o):=by
 obtain⟨V,E,N,Q,I,guard⟩:=o;dsimp only at j F;have g:=F;unfold execOp
 cases E with
 | move x=>exact fA (.value _ _ (g x kN))
 | assign x=>exact fA (.value _ _ (g x kN))
 | pick c a b=>
  refine dG (b9N (g c kN)) ?_;rintro t _ rfl;refine fA (.value _ _ ?_);split
  ·exact g a kN
  ·exact g b kN
 | alloc e=>exact u_ (c26 _ j)
 | build t R=>
  refine u_ (c3a _ j (ve λp J=>g p.2 ?_))
  simp[Op.operands];exact⟨p.1,by simpa using J⟩
 | buildSlice t l R=>
  refine u_ (b1C _ j _ (ve λp J=>g p.2 ?_))
  simp[Op.operands];exact⟨p.1,by simpa using J⟩
 | load t a=>exact u_ (b9P _ (g a kN))
 | store t a x=>exact d0e (b6H _ (g a kN) (g x kN))
 | nilCheck x=>
  have h:=g x kN;dsimp only;generalize ρ x=v at h;generalize q x=Z at h;have M:=h
  cases h with
  | kK=>exact XD _ trivial
  | nilIface=>exact XD _ trivial
  | func fn Y f f' c c' W=>cases W;exact fA (.value _ _ M)
  | _=>exact fA (.value _ _ M)
 | binOp E t x y u=>
  have A:=g x kN;have B:=g y kN;rcases j with j|⟨j,C⟩
  ·refine u_ (dG (R:=λ_ _=>True) ?_ λ_ _ _=>c3e D.toPGK _ j _ A B);cases E<;>first|exact absurd j dA|exact fA trivial
  ·cases C with
   | int k H=>exact u_ (dG (b41 _ _ H _ _ A B) λ_ _ _=>vt _ j _ A B (c9j D.toPQG _ H A B))
   | nil ms H=>
    dsimp only;rw[(O .nilIface).1,(O .nilIface).2] at B⊢
    exact u_ (dG (b42 _ _ _ A) λ_ _ _=>vt _ j _ A B (c3f _ H A))
 | unOp E t x=>exact u_ (c3d _ (g x kN))
 | convert s d x=>exact u_ (b6N j (g x kN))
 | makeInterface t x=>exact u_ (a7M _ j (g x kN))
 | slice t x l h m=>exact u_ (b6K D.RG _ (g x kN) (sR λy e=>g y (by simp[Op.operands,e])) (sR λy e=>g y (by simp[Op.operands,e])) (sR λy e=>g y (by simp[Op.operands,e])))
 | fieldAddr s x f=>exact u_ (b6I _ _ j (g x kN))
 | indexAddr t x i=>exact u_ (b6J D.RG _ (g x kN) (g i kN))
 | extract x i=>exact u_ (b6L _ (g x kN))
 | call c=>
  obtain⟨z,w,U⟩:=c;have L:AR S (w.map ρ) (w.map q):=c8c λx A=>g x (by simp[Op.operands,Call.operands,A])
  cases z with
  | value f=>
   cases f with
   | func f=>
    unfold resolve;dsimp only;rw[(G f).1,(G f).2];show Im S P (GL S) (callFunc f _) (callFunc f _);simp only[xw]
    exact b46 D j L
   | _=>exact j.elim
  | invoke r n=>exact j.elim
  | builtin b=>
   cases b<;>first|trivial|skip
   ·obtain⟨e,e',K,X,T⟩:=j;exact u_ (b9T _ _ K X T L)
   let⟨e,K⟩:=j
   exact u_ (c79 _ _ K L)
 | _=>exact j.elim
end
section
open Zn (ext low kk Gr K0 Nx)
variable{S:Sit}{P:Program}
structure tY(S S':Sit):Prop where
 F:S'.F=S.F
 T:S'.T=S.T
 D:∀b,S.D b->S'.D b
 ren:∀b,S.D b->S'.ren b=S.ren b
 W:∀b,S.W b->S'.W b
 old:∀b,S.D b->S'.W b->S.W b
 k:S'.K=S.K/\S'.Kd=S.Kd/\S'.Kk=S.Kk
def tY.refl(S:Sit):tY S S:=⟨rfl,rfl,λ_ h=>h,λ_ _=>rfl,λ_ h=>h,λ_ _ h=>h,rfl,rfl,rfl⟩
def tY.trans{A B C:Sit}(h:tY A B)(k:tY B C):tY A C:=
 ⟨k.F.trans h.F,k.T.trans h.T,λb x=>k.D b<|h.D b x,λb x=>(k.ren b<|h.D b x).trans<|h.ren b x,λb x=>k.W b<|h.W b x,λb x y=>h.old b x<|k.old b (h.D b x) y,k.k.1.trans h.k.1,k.k.2.1.trans h.k.2.1,k.k.2.2.trans h.k.2.2⟩
section
variable{S':Sit}(hL:tY S S')
include hL
theorem tY.rA{a:Addr}(h:S.D a.block):Bi.rA S' a=Bi.rA S a:=by unfold Bi.rA;rw[hL.ren _ h]
theorem VR.mono{v v':aX}(h:VR S v v'):VR S' v v':=by
 induction h with
 | bool b=>exact .bool b
 | int k n=>exact .int k n
 | string s=>exact .string s
 | kK=>exact .kK
 | ptr a h=>rw[<-hL.rA h];exact .ptr a<|hL.D _ h
 | jv n c=>exact .jv n c
 | slice a n c h=>rw[<-hL.rA h];exact .slice a n c<|hL.D _ h
 | func o i f j c e h l _ g _ p q=>
  refine .func o i f j c e ?_ l p g q
  cases h with
  | func f h=>exact .func f<|hL.F▸h
 | iface t v v' m h d=>exact .iface t v _ (hL.T▸m) d
 | nilIface=>exact .nilIface
 | agg c e g _ d=>exact .agg c e g d
 | tuple c e g _ d=>exact .tuple c e g d
theorem AR.mono{c:dU}(h:AR S c a):AR S' c a:=⟨h.size,λi d b=>(h.at_ i d b).mono hL⟩
theorem zZ.mono{o b:Obj}(h:zZ S o b):zZ S' o b:=by
 cases h with
 | cells c g e i d h f=>exact .cells _ _ _ _ _ (h.mono hL) f
 | number a l h=>rw[<-hL.rA h];exact .number _ _<|hL.D _ h
theorem pF.mono(h:pF S P t):pF S' P t:=λi z b a=>(h i z b a).mono hL
theorem Ja.mono(h:Ja S x):Ja S' x:=by
 cases x with
 | tmp=>trivial
 | const=>exact VR.mono hL h
 | global=>exact h
 | func f=>exact(hL.F▸h:S'.F f)
theorem MW.mono{o:Op}(h:MW S P o):MW S' P o:=by
 cases o
 case alloc t=>exact pF.mono hL h
 case build t k=>exact pF.mono hL h
 case buildSlice t n k=>exactλe l=>pF.mono hL<|h e l
 case makeInterface t x=>exact(show S'.T t by rw[hL.T];exact h)
 case call c=>
  let⟨a,d,g⟩:=c
  cases a with
  | value f=>
   cases f with
   | func f=>exact(show S'.F f by rw[hL.F];exact h)
   | _=>trivial
  | invoke=>trivial
  | builtin b=>
   cases b<;>first|exact(h:False).elim|skip
   let⟨e,p,i,m,j⟩:=h;exact⟨e,p,i,m.mono hL,j⟩
   exact h
 all_goals exact h
end
def xu(S:Sit)(w:aB):Prop:=∀b,S.D b->b<w.heap.size
def Sit.up(S:Sit)(n a m:Nat):Sit:={ren:=λb=>if b<n then S.ren b else a+(b - n),D:=λb=>S.D b\/(n<=b/\b<n+m),F:=S.F,T:=S.T,W:=λb=>S.W b\/(n<=b/\b<n+m),K:=S.K,Kd:=S.Kd,Kk:=S.Kk}
def du{w:aB}(a:xu S w)(c m:Nat):tY S (S.up w c m):=
 ⟨rfl,rfl,λb h=>.inl h,λb h=>if_pos<|a b h,λb h=>.inl h,λb h k=>k.elim id λk=>absurd (a b h)<|aj,rfl,rfl,rfl⟩
theorem dt{w w':aB}(g:xu S w)(j:WR S w w')(m:Nat):WR (S.up w w' m) w w':=by
 have n:=λb d=>have⟨_,_,_,h,_⟩:=j.obj b d<|g b d;lt_of_some h
 refine⟨λa b f d e=>?_,λb d v=>?_,λb d i=>?_,λb c e q d p l=>?_⟩
 unfold Sit.up at f d e;dsimp at f d e;obtain f|f:=f<;>obtain d|d:=d
 rw[if_pos (g a f),if_pos<|g b d] at e;exact j.inj a b f d e
 rw[if_pos (g a f),if_neg<|aj] at e;have:=n a f;omega
 rw[if_pos (g b d),if_neg<|aj] at e;have:=n b d;omega
 grind
 unfold Sit.up;dsimp;rw[if_neg aj];omega
 obtain d|d:=d
 let⟨o,u,t,s,r⟩:=j.obj b d i;refine⟨o,u,t,?_,r.mono<|du g _ _⟩;show w'.heap[if b<w then S.ren b else _]?=_;rw[if_pos i];exact s
 omega
 exact j.ro b c e q (by
  obtain d|d:=d
  exact d
  grind) (λh=>p<|.inl h) l
theorem c8d{w w':aB}(c:sZ S P)(d:xu S w)(e:WR S w w')(g:P.globals.size<=w)(f:P.globals.size<=w')(m:Nat):sZ (S.up w w' m) P:=by
 refine⟨⟨⟨λb a=>?_,(dt d e m).inj⟩,λb a=>?_⟩,c.body⟩
 obtain a|a:=a
 exact c.high b a
 omega
 show _<=if b<w then S.ren b else _
 obtain a|a:=a
 rw[if_pos (d b a)];exact c.high' b a
 grind
theorem both{R:Sit->α->β->Prop}{s:Sem α}{s':Sem β}{w w' u:aB}{a:α}(G:sZ S P)(k:xu S w)(y:WR S w w')(J:P.globals.size<=w)(M:P.globals.size<=w')(F:w'.tape=w.tape)(L:w'.drawn=w.drawn)
 (h:∀c,tY S c->sZ c P->Im c P (R c) s s')(o:s.run P w=.ok a u):
 ∃c b f es,s'.runT P w' #[]=(.ok b f,es)/\tY S c/\sZ c P/\xu c u/\R c a b/\WR c u f/\w.heap.size<=u/\w'.heap.size<=f/\f.tape=w'.tape/\f.drawn=u.drawn/\u.tape=w.tape/\f.os=w'.os/\f.output=w'.output/\
  (∀e∈es,ku c f e)/\(∀b,b<w'.heap.size->(∀a,S.D a->S.W a->S.ren a≠b)->f.heap[b]?=w'.heap[b]?)/\(∀b,c.D b->c.W b->S.W b/\S.D b\/w'.heap.size<=c.ren b)/\(∀b,c.D b->S.D b\/c.W b):=by
 have t:=uv o;have m:=du k w'.heap.size<|u.heap.size - w.heap.size;have j:=c8d G k y J M<|u.heap.size - w.heap.size;let⟨b,f,l,C,z,D,g,K⟩:=(h _ m j).run (dt k y _) o (λi N=>⟨.inr ⟨aj,aj⟩,.inr ⟨aj,aj⟩,by show(if w.heap.size+i<w then _ else _)=_;rw[if_neg aj];omega⟩) (λi q _=>by rw[F,L]) #[]
 have r:=A3 o;refine⟨_,b,f,l,iL,m,j,λb d=>?_,z,D,t,by have:=g.size';omega,g.tape',by have:=g.drawn';omega,r.2,g.os',g.output',K,λb d E=>g.old b d λa H n p e=>?_,λb d I=>?_,λb d=>d.imp id .inr⟩
 obtain d|d:=d
 have:=k b d;omega
 omega
 apply E a (H.elim id λx=>absurd x.1 aj) (n.elim id λx=>absurd x.1 aj);rw[<-e];exact(if_pos p).symm
 obtain d|d:=d
 exact .inl ⟨m.old b d I,d⟩
 right;show _<=if b<w then _ else _
 rw[if_neg aj];omega
end
section
open Zn (ext low kk Gr K0 Nx Jj L8 Hf MG xx Full)
variable{l:iZ}
variable{S:Sit}{P:Program}{X:Tmp->Prop}
def jO(S:Sit)(P:Program)(X:Tmp->Prop):Code->Prop
 | .seq a b=>jO S P X a/\jO S P X b
 | .cond c a b=>(Ja S c/\∀t,c=.tmp t->X t)/\jO S P X a/\jO S P X b
 | .block _ b=>jO S P X b
 | .loop b=>jO S P X b
 | .region _ d _=>∀o∈d,MW S P o.op/\(∀x∈o.op.operands,Ja S x/\∀t,x=.tmp t->X t)/\∀t,o.dst=some t->X t
 | .skip|.label _|.exit _|.ret=>True
 | _=>False
inductive vk(S:Sit)(P:Program)(X:Tmp->Prop):Item->Prop
 | code (c:Code) (h:jO S P X c):vk S P X (.code c)
 | inBlock (id:Nat):vk S P X (.inBlock id)
 | inLoop (c:Code) (h:jO S P X c):vk S P X (.inLoop c)
 | inRegion (ops:Array Oper) (l:List Nat) (h:∀o∈ops,MW S P o.op/\(∀x∈o.op.operands,Ja S x/\∀t,x=.tmp t->X t)/\∀t,o.dst=some t->X t):vk S P X (.inRegion ops l)
section
variable{S':Sit}(hL:tY S S')
include hL
theorem jO.mono{c:Code}(h:jO S P X c):jO S' P X c:=by
 induction c with
 | seq a b e d=>exact⟨e h.1,d h.2⟩
 | cond c a b e d=>exact⟨⟨h.1.1.mono hL,h.1.2⟩,e h.2.1,d h.2.2⟩
 | block _ b g=>exact g h
 | loop b g=>exact g h
 | region=>exactλo f=>⟨(h o f).1.mono hL,λx i=>⟨((h o f).2.1 x i).1.mono hL,((h o f).2.1 x i).2⟩,(h o f).2.2⟩
 | _=>trivial
theorem vk.mono{x:Item}(h:vk S P X x):vk S' P X x:=by
 cases h with
 | code c h=>exact .code c<|h.mono hL
 | inBlock=>exact .inBlock _
 | inLoop c h=>exact .inLoop c<|h.mono hL
 | inRegion b l h=>exact .inRegion b l λo a=>⟨(h o a).1.mono hL,λx d=>⟨((h o a).2.1 x d).1.mono hL,((h o a).2.1 x d).2⟩,(h o a).2.2⟩
end
def Kept(S:Sit)(X:Tmp->Prop)(l:iZ)(fr':Frame):Prop:=(∀t,¬X t->fr'.tmps.getD t undef=S.K t)/\(l=[]->fr'.defers=S.Kd/\fr'.kind=S.Kk)
structure tJ(S:Sit)(P:Program)(X:Tmp->Prop)(l:List Frame)(fr fr':Frame):Prop where
 fn:fr'.fn=fr.fn
 size:fr'.tmps.size=fr.tmps.size
 tmps:∀t,xx l X t->VR S (fr.tmps.getD t undef) (fr'.tmps.getD t undef)
 todo:fr'.todo=fr.todo
 items:∀x∈fr.todo,vk S P (xx l X) x
 mode:fr'.mode=fr.mode
 modes:fr.mode=.run\/fr.mode=.returning
 round:fr.roundOf=none
 round':fr'.roundOf=none
 early:fr.kind≠.early/\fr'.kind≠.early
 up:l≠[]->fr.kind=.normal/\fr'.kind=.normal/\fr.defers=[]/\fr'.defers=[]
 ld:fr.defers=[]
 kp:Kept S (xx l X) l fr'
theorem tJ.mono{c:Sit}(a:tY S c){fr fr':Frame}(h:tJ S P X l fr fr'):tJ c P X l fr fr':=
 ⟨h.fn,h.size,λt b=>(h.tmps t b).mono a,h.todo,λx d=>(h.items x d).mono a,h.mode,h.modes,h.round,h.round',h.early,h.up,h.ld,λt b=>(h.kp.1 t b).trans<|by rw[a.k.1],λe=>⟨(h.kp.2 e).1.trans a.k.2.1.symm,(h.kp.2 e).2.trans a.k.2.2.symm⟩⟩
inductive wP(S:Sit)(P:Program)(X:Tmp->Prop):List Frame->List Frame->Prop
 | nil:wP S P X [] []
 | cons (x y:Frame) (l k:List Frame) (h:tJ S P X l x y) (hm:x.mode=.run) (hne:x.todo≠[]) (hl:wP S P X l k):wP S P X (x::l) (y::k)
theorem wP.mono{b:Sit}(d:tY S b){k:iZ}(h:wP S P X l k):wP b P X l k:=by
 induction h with
 | nil=>exact .nil
 | cons x y l k h c a _ e=>exact .cons x y l k (h.mono d) c a e
theorem wP.kk{k:iZ}(h:wP S P X l k)(κ:List Item):Zn.kk k κ = Zn.kk l κ:=by cases h<;>rfl
def Qk:VR S undef undef:=.tuple' .nil
theorem tJ.eval{fr fr':Frame}(h:tJ S P X l fr fr')(b:Ja S x)(c:∀t,x=.tmp t->xx l X t):VR S (fr.eval x) (fr'.eval x):=by
 cases x with
 | tmp t=>exact h.tmps t<|c t rfl
 | const=>exact b
 | global=>trivial
 | func f=>exact .func _ _ _ _ _ _ (.func f b) rfl (λi a=>aZ) rfl (λi a=>aZ)
theorem b6P{fr fr':Frame}(h:tJ S P X l fr fr'){ops:Array Oper}(n:∀o∈ops,∀t,o.dst=some t->xx l X t):yielded ops fr'.tmps=yielded ops fr.tmps:=by
 funext j
 unfold yielded
 cases m:ops[j]? with
 | none=>rfl
 | some o=>
  cases f:o.dst with
  | none=>simp[f]
  | some t=>
   have d:=h.tmps t<|n o fU t f;rw[aV,aV] at d;simp[fK,f];by_cases c:t<fr.tmps.size
   have e:t<fr'.tmps.size:=by rw[h.size];exact c
   rw[dN c,dN e] at d⊢;generalize fr.tmps[t]=a at d;generalize fr'.tmps[t]=b at d;cases d<;>rfl
   have:=h.size;grind
theorem tJ.finish{fr fr':Frame}(h:tJ S P X l fr fr')(J:fr.mode=.run){v v':aX}(U:VR S v v'):tJ S P X l (fr.finish v) (fr'.finish v'):=by
 let⟨Z,w,O,D,N,L,B⟩:=fr;let⟨V,W,g,z,H,G,i⟩:=fr';let⟨A,n,m,M,j,s,p,r,q,f,b,c,a⟩:=h;subst M;unfold Frame.finish
 cases g with
 | nil=>exact⟨A,n,m,rfl,j,s,p,r,q,f,b,c,a⟩
 | cons x k=>
  cases (j x<|aZ) with
  | inRegion T Y I=>
   cases Y with
   | nil=>exact⟨A,n,m,rfl,j,s,p,r,q,f,b,c,a⟩
   | cons=>
    dsimp;refine⟨A,?_,?_,rfl,?_,s,p,r,q,f,b,c,?_,a.2⟩
    dsimp;split<;>simp[n]
    dsimp;split
    rename_i d K;intro t C;rw[aV,aV,gJ,gJ,n];split
    split
    exact U
    exact Qk
    simp_all
    exact m
    intro y u;obtain rfl|u:=bI.1 u
    exact .inRegion _ _ I
    simp_all
    dsimp;split
    rename_i d K;intro t C;let⟨o,E,F⟩:=b_.1 K;rw[aV,bf (λe=>C (e▸(I o<|Array.mem_of_getElem? E).2.2 d F):d≠t),<-aV];exact a.1 t C
    exact a.1
  | _=>exact⟨A,n,m,rfl,j,s,p,r,q,f,b,c,a⟩
structure Gre(S S':Sit)(w w':World)(es:Array Event):Prop where
 size:w.heap.size<=w'
 tape:w'.tape=w.tape
 os:w'.os=w.os
 output:w'.output=w.output
 old:∀b,b<w.heap.size->(∀a,S.D a->S.W a->S.ren a≠b)->w'.heap[b]?=w.heap[b]?
 new:∀b,S'.D b->S'.W b->S.W b/\S.D b\/w.heap.size<=S'.ren b
 ev:∀e∈es,ku S' w' e
 dw:∀b,S'.D b->S.D b\/S'.W b
def zM(P:Program)(S:Sit)(X:Tmp->Prop)(w2:aB)(s:List Item->List Frame->GStep)(fr':Frame)(l':iZ)(w':aB):Prop:=
 ∃a d e b c,(∀κ f,s κ f=.go (Gr d e κ f) b c)/\tY S a/\sZ a P/\xu a w'/\tJ a P X l' fr' d/\wP a P X l' e/\WR a w' b/\Gre S a w2 b c
theorem Jg(fr:Frame)(l:iZ):Gr fr l [] []={frame:=fr,callers:=l,status:=.running,dying:=none}:=by
 have a:∀l,kk l _=[]:=λl=>by cases l<;>rfl
 have c:∀l,low l [] []=l:=by
  intro l
  induction l with
  | nil=>rfl
  | cons x l b=>unfold low;rw[a,Jj,b]
 unfold Gr;rw[a,Jj,c]
theorem c3k{fr d:Frame}{y:iZ}{w w2:aB}{fr':Frame}{l':iZ}{w':aB}{es:Array Event}(hP:sZ S P)(hc:xu S w)(L:tJ S P X l fr d)(hLo:wP S P X l y)(hW:WR S w w2)
 (h1:P.globals.size<=w)(h2:P.globals.size<=w2)(ht:w2.tape=w.tape)(hd:w2.drawn=w.drawn)
 (z:∀f fn c,S.F f->P.funcs[f]?=some fn->fn.body=some c->jO S P Full c)
 (W:fr.mode=.run){ops:Array Oper}{is:List Nat}{k:List Item}(n:fr.todo=.inRegion ops is::k)(hm':∀c,fr'.mode≠.panicking c){s s2:Sem Next}(him:∀m,tY S m->sZ m P->Im m P (GL m) s s2)
 (hh:(∃a u,s.run P w=.ok a u)\/∃x u,s.run P w=.halt x u/\Zn.jg x)
 (g:stepG.apply P true fr l none s w=.go (Gr fr' l' [] []) w' es):
 zM P S X w2 (λκ cs=>stepG.apply P true (ext d (kk y κ)) (low y κ cs) none s2 w2) fr' l' w':=by
 rw[Jg] at g;have M:(fr.kind==CallKind.early)=false:=by have:=L.early.1;cases O:fr.kind<;>simp_all<;>rfl
 have D:∀κ,((ext d κ).kind==CallKind.early)=false:=λκ=>by show(d.kind==CallKind.early)=false;have:=L.early.2;cases O:d.kind<;>simp_all<;>rfl
 have o:∀{r:Result Next},s.run P w=r->∃C,s.runT P w #[]=(r,C):=λ{r}e=>⟨(s.runT P w #[]).2,by simp_all⟩
 have p:d.todo≠[]:=by rw[L.todo,n];simp
 obtain⟨a,u,R⟩|⟨x,u,R,N⟩:=hh
 obtain⟨C,H⟩:=o R;obtain⟨m,b,Q,h,K,q,g3,g4,g5,g6,g7,g8,g9,g10,g11,Y,g13,g14,g15,g16,g17⟩:=both hP hc hW h1 h2 ht hd him R;have G:=L.mono q;have U:=hLo.mono q;have Z:∀B:Array Event,(∀e∈B,e∈h)->Gre S m w2 Q B:=λB i=>⟨g8,g9,Y,g13,g15,g16,λe T=>g14 e (i e T),g17⟩;have i:∀e∈seen P d.fn h++#[],e∈h:=λe T=>by rw[oN] at T;exact Go.Conc.mem_seen T
 unfold stepG.apply at g;simp only[if_true,M,H,dY,if_false] at g
 cases g5 with
 | value v v' hv=>
  injection g with F I e3;injection F with E J;subst E;subst J;subst I;refine⟨m,d.finish v',y,Q,seen P d.fn h++#[],λκ cs=>?_,q,g3,g4,G.finish W hv,U,g6,Z _ i⟩;unfold stepG.apply;simp only[if_true,D,K,dY,if_false];rw[L8 p]
  rfl
 | skip=>
  injection g with F I e3;injection F with E J;subst E;subst J;subst I;refine⟨m,d.finish undef,y,Q,seen P d.fn h++#[],λκ cs=>?_,q,g3,g4,G.finish W Qk,U,g6,Z _ i⟩;unfold stepG.apply;simp only[if_true,D,K,dY,if_false];rw[L8 p]
  rfl
 | enter f args j hf ha=>
  obtain⟨fn,h3,h4,-⟩:=hP.body f (q.F▸hf);have A:∀κ,(ext d κ).todo=.inRegion ops is::(k++κ):=λκ=>by unfold ext;rw[L.todo,n];rfl
  dsimp only[GStep.after] at g;rw[n] at g;dsimp only at g;injection g with F I e3;injection F with E J;subst E;subst J;subst I;refine⟨m,Frame.enter P f j .normal,d::y,Q,seen P d.fn h++#[],λκ cs=>?_,q,g3,g4,?_,.cons fr d l y G W (by rw[n];simp) U,g6,Z _ i⟩
  unfold stepG.apply;simp only[if_true,D,K,dY,if_false];dsimp only[GStep.after];rw[A];dsimp only;unfold Gr;show _=GStep.go {frame:=ext _ [],callers:=_,status:=_,dying:=_} _ _;rw[Jj];rfl
  refine⟨rfl,?_,λt _=>?_,rfl,λx O=>?_,rfl,.inl rfl,rfl,rfl,⟨by simp[Frame.enter],by simp[Frame.enter]⟩,λ_=>⟨rfl,rfl,rfl,rfl⟩,rfl,λt ht=>absurd trivial ht,λe=>by cases e⟩
  simp[Frame.enter,ha.size]
  simp only[Frame.enter];rw[<-ha.size];exact(ha.append (AR.replicate _ Qk)).getD _ Qk
  simp only[Frame.enter,dB] at O;subst O;refine .code _ ?_;rw[h3]
  cases hb:fn.body with
  | none=>simp_all
  | some c=>simp only[fK,hb];exact(z f fn c (q.F▸hf) h3 hb).mono q
 obtain⟨C,H⟩:=o R;exfalso;unfold stepG.apply at g;simp only[if_true,M,H,if_false] at g
 cases x with
 | panic v=>
  injection g with F I e3;injection F with E J;obtain⟨c,V,-⟩:=Zn.raise_mode fr [{v,recovered:=false}]
  simp_all
 | stuck x=>cases g
 | unsupported x=>cases x<;>first|assumption|cases g
 | _=>assumption
end
section
open Zn (ext low kk Gr K0 Nx Jj L8 Hf MG QA xx Full Me sD)
variable{S:Sit}{P:Program}{X:Tmp->Prop}
theorem c6m{Q:Value->Value->Prop}(f c:α->Sem Value)(l:List α)(h:∀x∈l,Im S P Q (f x) (c x)):Im S P (LR Q) (l.mapM f) (l.mapM c):=by
 induction l with
 | nil=>exact fA .nil
 | cons x l d=>rw[oJ,oJ];refine .bind (h x aZ) ?_;intro a j i;refine .bind (d λy e=>h y fU) ?_;intro b k g;exact .pure (.cons i g)
theorem LR.array{l l':jl}(h:LR (VR S) l l'):AR S l.toArray l'.toArray:=by
 induction h with
 | nil=>exact .nil
 | cons d _ c=>
  rename_i a b l k _;have e:∀(x:aX)(l:List _),(x::l).toArray=#[x]++l.toArray:=λx l=>aZ
  rw[e a,e b];exact(AR.one d).append c
theorem b6Q{fn:Func}{b AY:dU}(h:∀t,VR S (b.getD t undef) (AY.getD t undef)):Im S P (VR S) (results fn b) (results fn AY):=by
 refine dG (R:=AR S) ?_ ?_
 rw[jm,jm];refine dG (c6m (Q:=VR S) _ _ _ λr _=>?_) ?_
 cases r with
 | tmp t=>exact fA (h t)
 | cell a=>refine dG (AD (h a)) ?_;rintro a _ ⟨j,rfl⟩;exact M3 _ j
 intro l k g;exact fA g.array
 intro i c e;by_cases d:i.size=1
 rw[dif_pos d,dif_pos (by rw[<-e.size];exact d)];exact fA (e.at_ 0 _ _)
 rw[dif_neg d,dif_neg (by rw[<-e.size];exact d)];exact .pure (.tuple' e)
section
variable{Z:Zn.Zone}{Sh:Nat->Prop}{Xu:Tmp->Prop}{fr pU:Frame}{l l2:List Frame}{w w2:World}{fr':Frame}{l':List Frame}{w':World}{es:Array Event}
theorem zM.congr{s s':List Item->List Frame->GStep}(h:∀κ cs,s κ cs=s' κ cs)(k:zM P S X w2 s' fr' l' w'):zM P S X w2 s fr' l' w':=by
 have:s=s':=fU
 grind
theorem su(m:sZ S P)(j:xu S w)(a:wP S P X l l2)(f:WR S w w2){YQ Ci:Frame}(i:tJ S P X l YQ Ci)(c:GStep.go {frame:=YQ,callers:=l,status:=.running,dying:=none} w #[]=.go (Gr fr' l' [] []) w' es){s:List Item->List Frame->GStep}
 (h:∀κ cs,s κ cs=.go (Gr Ci l2 κ cs) w2 #[]):zM P S X w2 s fr' l' w':=by
 rw[Jg] at c;injection c with g n o;injection g with e d;subst e;subst d;subst n;exact⟨S,Ci,l2,w2,#[],h,.refl S,m,j,i,a,f,ak _,rfl,rfl,rfl,λ_ _ _=>rfl,λb h k=>.inl ⟨k,h⟩,aZ,λb h=>.inl h⟩
theorem c6n(KO:∀Z',Zn.Le Z Z'->Zn.t_ Z' P)(hI:Zn.Inv Z Sh Xu fr l w)(Y:sZ S P)(W:xu S w)(hF:tJ S P X l fr pU)(D:wP S P X l l2)(V:WR S w w2)
 (h1:P.globals.size<=w)(h2:P.globals.size<=w2)(ht:w2.tape=w.tape)(hd:w2.drawn=w.drawn)
 (R:∀f fn c,S.F f->P.funcs[f]?=some fn->fn.body=some c->jO S P Full c)(hm:fr.mode=.run)(hm':∀c,fr'.mode≠.panicking c)
 (G:∀κ cs,stepG.exec P true true (ext fr (kk l κ)) (low l κ cs) none w=.go (Gr fr' l' κ cs) w' es):
 zM P S X w2 (λκ cs=>stepG.exec P false true (ext pU (kk l2 κ)) (low l2 κ cs) none w2) fr' l' w':=by
 have Gn:=hF;have z:=G [] [];have hg:=Jg fr l;unfold Gr at hg;injection hg with hg1 hg2;rw[hg1,hg2] at z;obtain⟨fn,p,todo,m,mode,r,roundOf⟩:=fr;obtain⟨j,B,Q,d,Ta,g,Ry⟩:=pU;obtain⟨f1,f2,f3,f4,f5,f6,f7,f8,f9,N,K,M,T⟩:=hF;dsimp only at f1 f2 f3 f4 f5 f6 f7 f8 f9 N K M hm;subst f1;subst f4;subst f8;subst f9;subst hm;subst f6;have H:∀{td:List Item},(∀x∈td,vk S P (xx l X) x)->
  GStep.go _ w #[]=.go (Gr fr' l' [] []) w' es->
  ∀{s:List Item->List Frame->GStep},(∀κ cs,s κ cs=.go (Gr _ l2 κ cs) w2 #[])->zM P S X w2 s fr' l' w':=λ{td}J z{s}h=>
  su (YQ:={fn:=j,tmps:=p,todo:=td,defers:=m,mode:=.returning,kind:=r}) (Ci:={fn:=j,tmps:=B,todo:=td,defers:=d,mode:=.returning,kind:=g}) Y W D V ⟨rfl,f2,f3,rfl,J,rfl,.inr rfl,rfl,rfl,N,K,M,T⟩ z h
 have UC:∀κ,l≠[]->kk l2 κ = []:=λκ hne=>by
  rw[λκ:List Item=>D.kk κ];cases l with
  | nil=>exact absurd rfl hne
  | cons=>rfl
 cases Q with
 | nil=>
  by_cases hl:l=[]
  ·subst hl;have:=G K0 [];cases this
  ·refine H (td:=[]) aZ z λκ cs=>?_;rw[UC κ hl];unfold Gr;rw[UC κ hl]
   rfl
 | cons x k=>
  have J:∀y∈k,vk S P (xx l X) y:=λy I=>f5 y (by simp[I]);have F:∀{td:List Item},(∀x∈td,vk S P (xx l X) x)->GStep.go _ w #[]=.go (Gr fr' l' [] []) w' es->
   ∀{s:List Item->List Frame->GStep},(∀κ cs,s κ cs=.go (Gr _ l2 κ cs) w2 #[])->zM P S X w2 s fr' l' w':=λ{td}J z{s}h=>
   su (YQ:={fn:=j,tmps:=p,todo:=td,defers:=m,mode:=.run,kind:=r}) (Ci:={fn:=j,tmps:=B,todo:=td,defers:=d,mode:=.run,kind:=g}) Y W D V ⟨rfl,f2,f3,rfl,J,rfl,.inl rfl,rfl,rfl,N,K,M,T⟩ z h
  have c1:∀{a:Item},vk S P (xx l X) a->∀y∈a::k,vk S P (xx l X) y:=λha y I=>by
   rcases bI.1 I with rfl|I
   ·exact ha
   ·exact J y I
  have c2:∀{a b:Item},vk S P (xx l X) a->vk S P (xx l X) b->∀y∈a::b::k,vk S P (xx l X) y:=λha hb y I=>by
   obtain rfl|I:=bI.1 I
   ·exact ha
   ·exact c1 hb y I
  cases (f5 x aZ) with
  | inBlock id=>exact F J z λ_ _=>rfl
  | inLoop c h=>exact F (c2 (.code c h) (.inLoop c h)) z λ_ _=>rfl
  | inRegion n is ho=>
   cases is with
   | nil=>exact F J z λ_ _=>rfl
   | cons i q=>
    have ey:=b6P Gn λo h=>(ho o h).2.2;by_cases U:((n[i]?).map (Region.wanted · (yielded n p))).getD false=true
    cases C:n[i]? with
    | none=>rw[C] at U;cases U
    | some o=>
     have L:=ho o (Array.mem_of_getElem? C);have O:Zn.MV (Zn.Zf Z Sh w) o.op/\Zn.eB (xx l Xu) o.op:=by
      cases (hI.fr.1.todo (.inRegion n (i::q)) aZ) with
      | inRegion _ _ h hu=>exact⟨h o (Array.mem_of_getElem? C),hu o (Array.mem_of_getElem? C)⟩
     refine zM.congr (λκ cs=>?_) (c3k Y W Gn D V h1 h2 ht hd R rfl rfl hm' (λS' hL hP'=>b9U hP' (L.1.mono hL) (λx G=>(Gn.mono hL).eval ((L.2.1 x G).1.mono hL) (L.2.1 x G).2) (λv=>⟨rfl,rfl⟩) λf=>⟨rfl,rfl⟩) (by
      obtain⟨a,u,es,k1,ha,hT,-⟩|⟨x,u,es,k1,ha,hT,hok,-⟩:=Zn.both (λZ' hZ=>Zn.rQ (KO Z' (hI.W.le.trans hZ)) (O.1.mono hZ).1 λx G=>Zn.pK (hI.fr.1.mono hZ) x ((O.1.mono hZ).2 x G) λt e=>O.2 x G t e) hI.W
      ·have e:=hT w.tape w.drawn λ_ _ _=>rfl;rw[Zn.jJ] at e;simp_all
      ·have e:=hT w.tape w.drawn λ_ _ _=>rfl;rw[Zn.jJ] at e;simp_all) (by
      rw[<-z];unfold stepG.exec;dsimp;rw[if_pos U];unfold stepG.oper;simp[show(Frame.oper? ⟨j,p,.inRegion n (i::q)::k,m,.run,r,none⟩)=some o from C]));show stepG.exec P false true ⟨j,B,.inRegion n (i::q)::(k++kk l2 κ),d,.run,g,none⟩ _ none w2=_;unfold stepG.exec;dsimp;rw[if_pos (by rw[ey];exact U)];unfold stepG.oper;simp[show(Frame.oper? ⟨j,B,.inRegion n (i::q)::(k++kk l2 κ),d,.run,g,none⟩)=some o from C];rfl
    refine su Y W D V (Gn.finish rfl Qk) (by rw[<-z];unfold stepG.exec;simp_all) λκ cs=>?_;unfold Gr;rw[<-L8 aZ];show stepG.exec P false true ⟨j,B,.inRegion n (i::q)::(k++kk l2 κ),d,.run,g,none⟩ _ none w2=_;unfold stepG.exec;dsimp;rw[if_neg (by rw[ey];exact U)]
    rfl
  | code c h=>
   cases c with
   | skip=>exact F J z λ_ _=>rfl
   | label _=>exact F J z λ_ _=>rfl
   | seq a b=>exact F (c2 (.code _ h.1) (.code _ h.2)) z λ_ _=>rfl
   | block id b=>exact F (c2 (.code b h) (.inBlock id)) z λ_ _=>rfl
   | loop b=>exact F (c2 (.code b h) (.inLoop b h)) z λ_ _=>rfl
   | cond c a b=>
    have hv:=Gn.eval h.1.1 h.1.2;unfold stepG.exec at z;dsimp at z;generalize hv1:Frame.eval _ c=v at hv z;generalize hv2:Frame.eval _ c=v2 at hv
    cases hv with
    | bool t=>
     refine F (c1 (.code _ ?_)) z λκ cs=>?_
     split
     exact h.2.1
     exact h.2.2
     have e4:Frame.eval ⟨j,B,.code (.cond c a b)::(k++kk l2 κ),d,.run,g,none⟩ c=.bool t:=kT
     show stepG.exec P false true ⟨j,B,.code _::(k++kk l2 κ),d,.run,g,none⟩ _ none w2=_;unfold stepG.exec;dsimp;rw[e4]
     rfl
    | _=>cases z
   | exit id=>
    unfold stepG.exec at z;dsimp at z
    cases e:exitTo id k with
    | none=>simp_all
    | some k'=>
     rw[e] at z;refine F (λy I=>J y (QA e y I)) z λκ cs=>?_;show stepG.exec P false true ⟨j,B,.code _::(k++kk l2 κ),d,.run,g,none⟩ _ none w2=_;unfold stepG.exec;dsimp;rw[MG _ e]
     rfl
   | ret=>exact H f5 z λκ cs=>rfl
   | region id n draw=>
    cases draw with
    | false=>exact F (c1 (.inRegion _ _ h)) z λ_ _=>rfl
    | true=>
     have hr:∀w,(choose (.order j id)).run P w=.ok _ _:=λw=>rfl;unfold stepG.exec at z;dsimp at z;rw[hr,Jg] at z;dsimp at z;injection z with g1 g2 g3;injection g1 with g4 g5;subst g4;subst g5;subst g2;refine⟨S,⟨j,B,.inRegion n _::k,d,.run,g,none⟩,l2,{w2 with drawn:=w2.drawn+1},#[],λκ cs=>?_,.refl S,Y,W,
      ⟨rfl,f2,f3,rfl,c1 (.inRegion _ _ h),rfl,.inl rfl,rfl,rfl,N,K,M,T⟩,D,V.draw _ _,ak _,rfl,rfl,rfl,λ_ _ _=>rfl,λb h k=>.inl ⟨k,h⟩,aZ,λb h=>.inl h⟩
     show stepG.exec P false true ⟨j,B,.code _::(k++kk l2 κ),d,.run,g,none⟩ _ none w2=_;unfold stepG.exec;dsimp only;rw[hr,ht,hd]
     rfl
   | _=>trivial
theorem b9V(hI:Zn.Inv Z Sh Xu fr l w)(KO:∀Z',Zn.Le Z Z'->Zn.t_ Z' P)(hP:sZ S P)(hc:xu S w)(hF:tJ S P X l fr pU)(hLo:wP S P X l l2)(hW:WR S w w2)
 (h1:P.globals.size<=w)(h2:P.globals.size<=w2)(ht:w2.tape=w.tape)(hd:w2.drawn=w.drawn)(hm:fr.mode=.returning)
 (hx:∀κ cs,unwind P true (ext fr (kk l κ)) (low l κ cs) none w=.go (Gr fr' l' κ cs) w' es):
 zM P S X w2 (λκ cs=>unwind P false (ext pU (kk l2 κ)) (low l2 κ cs) none w2) fr' l' w':=by
 have em:∀k,(ext fr k).mode=.returning:=λ_=>hm;have bj:∀k,(ext pU k).mode=.returning:=λ_=>hF.mode.trans hm;have ed:∀k,(ext fr k).defers=[]:=λ_=>hF.ld;have Iu:∀(main:Bool){f c:Frame}{l:iZ}(hk:f.kind=.normal)(hc:c.todo≠[])(v:aX)(es:Array Event)(κ:List Item)(cs:iZ)(w:aB),
  GStep.after es (doReturn P main f (low (c::l) κ cs) none v w)=.go (Gr (c.finish v) l κ cs) w (es++#[]):=λmain f c l hk hc v es κ cs w=>by
  unfold doReturn;rw[hk];show GStep.after es (GStep.go {frame:=(ext c (kk l κ)).finish v,callers:=low l κ cs,status:=.running,dying:=none} w)=_;rw[L8 hc];rfl
 have Bc:∀(main:Bool){f c:Frame}{l:iZ}(hk:f.kind=.normal)(hc:c.todo≠[])(v:aX)(κ:List Item)(cs:iZ)(w:aB),
  doReturn P main f (low (c::l) κ cs) none v w=.go (Gr (c.finish v) l κ cs) w #[]:=λmain f c l hk hc v κ cs w=>by
  unfold doReturn;rw[hk];show GStep.go {frame:=(ext c (kk l κ)).finish v,callers:=low l κ cs,status:=.running,dying:=none} w=_;rw[L8 hc];rfl
 cases hLo with
 | nil=>
  exfalso;have hlen:∀(l:iZ)κ(cs:iZ),(low l κ cs).length=l.length+cs.length:=λl κ cs=>by
   induction l with
   | nil=>simp[low]
   | cons x l ih=>simp only[low,dK,ih];omega
  have h0:=hx [] [Zn.c0];have hret:∀(v:aX)(u:aB)(es0:Array Event),GStep.after es0 (doReturn P true (ext fr (kk [] [])) (low [] [] [Zn.c0]) none v u)≠.go (Gr fr' l' [] [Zn.c0]) w' es:=λv u es0 e=>by
   unfold doReturn low at e;have key:∀(f:Frame),GStep.after es0 (GStep.go {frame:=f,callers:=[],status:=.running,dying:=none} u)≠.go (Gr fr' l' [] [Zn.c0]) w' es:=λf e=>by injection e with e1 e2 e3;have:=congrArg (λg:Goroutine=>g.callers.length) e1;simp only[Gr,hlen,dK,jT] at this;omega
   cases hk:(ext fr (kk [] [])).kind<;>(rw[hk] at e;exact key _ e)
  have TN:∀(v:aX)(u:aB),doReturn P true (ext fr (kk [] [])) (low [] [] [Zn.c0]) none v u≠.go (Gr fr' l' [] [Zn.c0]) w' es:=λv u e=>by
   unfold doReturn low at e;have key:∀(f:Frame),GStep.go {frame:=f,callers:=[],status:=.running,dying:=none} u≠.go (Gr fr' l' [] [Zn.c0]) w' es:=λf e=>by injection e with e1 e2 e3;have:=congrArg (λg:Goroutine=>g.callers.length) e1;simp only[Gr,hlen,dK,jT] at this;omega
   cases hk:(ext fr (kk [] [])).kind<;>(rw[hk] at e;exact key _ e)
  unfold unwind at h0;rw[ed,em] at h0;dsimp only at h0
  cases hfn:P.funcs[(ext fr (kk [] [])).fn]? with
  | none=>rw[hfn] at h0;exact TN _ _ h0
  | some fn=>
   rw[hfn] at h0;dsimp only at h0
   cases hr:(results fn (ext fr (kk [] [])).tmps).runT P w #[] with
   | mk r es0=>
   rw[hr] at h0
   cases r with
   | ok v u=>exact hret _ _ _ h0
   | halt x u=>cases x<;>cases h0
 | cons c c2 l0 k0 hcR hcm hcn hl0=>
  obtain⟨u1,u2,u3,u4⟩:=hF.up aZ;have bm:∀k,(ext pU k).defers=[]:=λ_=>u4;have Vi:∀t,VR S (fr.tmps.getD t undef) (pU.tmps.getD t undef):=λt=>hF.tmps t trivial;have Uy:c2.todo≠[]:=by rw[hcR.todo];exact hcn
  cases hfn:P.funcs[fr.fn]? with
  | none=>
   have h0:=hx [] [];unfold unwind at h0;rw[ed,em] at h0;dsimp only at h0;rw[show(ext fr (kk (c::l0) [])).fn=fr.fn from rfl,hfn] at h0;dsimp only at h0;rw[Bc true (f:=ext fr (kk (c::l0) [])) u1 hcn] at h0;injection h0 with g1 g2 g3;rw[Jg,Jg] at g1;injection g1 with g4 g5;subst g4;subst g5;subst g2;refine⟨S,c2.finish (pU.tmps.getD 0 undef),k0,w2,#[],λκ cs=>?_,.refl S,hP,hc,hcR.finish hcm (Vi 0),hl0,hW,⟨ak _,rfl,rfl,rfl,λ_ _ _=>rfl,λb h k=>.inl ⟨k,h⟩,aZ,λb h=>.inl h⟩⟩;show unwind P false (ext pU (kk (c2::k0) κ)) (low (c2::k0) κ cs) none w2=_;unfold unwind;rw[bm,bj];dsimp only;rw[show(ext pU (kk (c2::k0) κ)).fn=pU.fn from rfl,hF.fn,hfn];dsimp only;rw[Bc false (f:=ext pU (kk (c2::k0) κ)) u2 Uy]
   rfl
  | some fn=>
   have h0:=hx [] [];unfold unwind at h0;rw[ed,em] at h0;dsimp only at h0;rw[show(ext fr (kk (c::l0) [])).fn=fr.fn from rfl,hfn] at h0;dsimp only at h0;rw[show(ext fr (kk (c::l0) [])).tmps=fr.tmps from rfl] at h0
   cases hr:(results fn fr.tmps).runT P w #[] with
   | mk r es0=>
   rw[hr] at h0;have hr1:(results fn fr.tmps).run P w=r:=by rw[<-Sem.runT_fst P _ w #[],hr]
   cases r with
   | halt x u=>cases x<;>cases h0
   | ok v u=>dsimp only at h0;rw[Iu true (f:=ext fr (kk (c::l0) [])) u1 hcn] at h0;injection h0 with g1 g2 g3;rw[Jg,Jg] at g1;injection g1 with g4 g5;subst g4;subst g5;subst g2;obtain⟨S',b,u2',es2,g1,g2,g3,g4,g5,g6,g7,g8,g9,g10,g11,g12,g13,g14,g15,g16,g17⟩:=both hP hc hW h1 h2 ht hd (R:=λS=>VR S) (λS' hL hP'=>b6Q (fn:=fn) (AY:=pU.tmps) λt=>(Vi t).mono hL) hr1;refine⟨S',c2.finish b,k0,u2',seen P pU.fn es2++#[],λκ cs=>?_,g2,g3,g4,(hcR.mono g2).finish hcm g5,hl0.mono g2,g6,⟨g8,g9,g12,g13,g15,g16,λe he=>g14 e (by rw[oN] at he;exact Go.Conc.mem_seen he),g17⟩⟩;show unwind P false (ext pU (kk (c2::k0) κ)) (low (c2::k0) κ cs) none w2=_;unfold unwind;rw[bm,bj];dsimp only;rw[show(ext pU (kk (c2::k0) κ)).fn=pU.fn from rfl,hF.fn,hfn];dsimp only;rw[show(ext pU (kk (c2::k0) κ)).tmps=pU.tmps from rfl,g1];dsimp only;rw[Iu false (f:=ext pU (kk (c2::k0) κ)) u2 Uy]
theorem c6o(KO:∀Z',Zn.Le Z Z'->Zn.t_ Z' P)(hI:Zn.Inv Z Sh Xu fr l w)(hP:sZ S P)(hc:xu S w)(hF:tJ S P X l fr pU)(hLo:wP S P X l l2)(hW:WR S w w2)
 (h1:P.globals.size<=w)(h2:P.globals.size<=w2)(ht:w2.tape=w.tape)(hd:w2.drawn=w.drawn)
 (hcode:∀f fn c,S.F f->P.funcs[f]?=some fn->fn.body=some c->jO S P Full c)(hm':∀c,fr'.mode≠.panicking c)(hx:Nx P fr l w fr' l' w' es):
 zM P S X w2 (λκ cs=>stepG P false (Gr pU l2 κ cs) w2) fr' l' w':=by
 rcases hF.modes with hm|hm
 ·refine zM.congr (λκ cs=>?_) (c6n (es:=es) KO hI hP hc hF hLo hW h1 h2 ht hd hcode hm hm' λκ cs=>?_)
  ·unfold stepG Gr;dsimp only;rw[show(ext pU (kk l2 κ)).mode=.run from hF.mode.trans hm]
  ·rw[<-hx κ cs];unfold stepG Gr;dsimp only;rw[show(ext fr (kk l κ)).mode=.run from hm]
 ·refine zM.congr (λκ cs=>?_) (b9V (es:=es) hI KO hP hc hF hLo hW h1 h2 ht hd hm λκ cs=>?_)
  ·unfold stepG Gr;dsimp only;rw[show(ext pU (kk l2 κ)).mode=.returning from hF.mode.trans hm]
  ·rw[<-hx κ cs];unfold stepG Gr;dsimp only;rw[show(ext fr (kk l κ)).mode=.returning from hm]
end
end
section
open Zn (ext low kk Gr K0 Nx Full)
open Mc (Wk Tr)
variable{S:Sit}{P:Program}{X:Tmp->Prop}
structure Rl(Ro:Nat->Prop)(O:Nat->Prop)(w w':World):Prop where
 size:w.heap.size<=w'
 ro:∀b,Ro b->w'.heap[b]?=w.heap[b]?
 own:∀b,O b->w'.heap[b]?=w.heap[b]?
def EvB(b O:tyP)(B:Nat)(e:Event):Prop:=
 match e.loc with
 | .cell a=>e.sync=false/\(O a.block\/(b a.block/\e.write=false))/\a.block<B
 | .obj r=>e.sync=false/\(O r\/b r)/\e.write=false/\r<B
 | .mark m=>iG m
 | _=>False
structure Gd(Ro:Nat->Prop)(O O':Nat->Prop)(w w':World)(es:Array Event):Prop where
 size:w.heap.size<=w'
 tape:w'.tape=w.tape
 os:w'.os=w.os
 output:w'.output=w.output
 old:∀b,b<w.heap.size->¬O b->w'.heap[b]?=w.heap[b]?
 more:∀b,O b->O' b
 new:∀b,O' b->O b\/w.heap.size<=b
 Tn:∀b,O' b->b<w'.heap.size
 ev:∀e∈es,EvB Ro O' w' e
def Img(S:Sit)(O:tyP):Prop:=∀b,O b<->∃a,S.D a/\S.W a/\S.ren a=b
def End(P:Program)(X:Tmp->Prop)(A:Frame->World->Prop)(f:tyP)(κ:List Item)(cs:iZ)(e:Sit)(O:tyP)(g:iY)(w2:aB):Prop:=
 ∃S d c w,tY e S/\(∀b,S.D b->e.D b\/S.W b)/\g=Gr c [] κ cs/\tJ S P X [] d c/\WR S w w2/\xu S w/\Img S O/\(∀a,S.D a->f (S.ren a)\/O (S.ren a))/\A (ext d K0) w
theorem WR.rely{g O:tyP}{w w2 i:aB}(h:WR S w w2)(n:xu S w)(f:∀a,S.D a->g (S.ren a)\/O (S.ren a))(k:Rl g O w2 i):WR S w i:=by
 refine⟨h.inj,λb c l=>?_,λb c e=>?_,h.ro⟩
 have:=n b l;omega
 let⟨o,q,m,j,p⟩:=h.obj b c e;refine⟨o,q,m,?_,p⟩;obtain d|d:=f b c
 rw[k.ro _ d];exact j
 rw[k.own _ d];exact j
def WR.tp{w w2:aB}(h:WR S w w2)(τ:Nat->Question->Nat)(p:Nat):WR S (Zn.tp w τ p) w2:=⟨h.inj,h.fresh,h.obj,h.ro⟩
theorem c8e{Z:Zn.Zone}{Sh:tyP}{Xu:Tmp->Prop}{A:Frame->World->Prop}(D:tyP)(R:Sit)(KO:∀Z',Zn.Le Z Z'->Zn.t_ Z' P)(hA:∀F w τ p,A F w->A F (Zn.tp w τ p))(κ:List Item)(cs:iZ)
 {fr:Frame}{l:iZ}{w:aB}(hG:Zn.vK P Z Sh Xu A fr l w):
 ∀(S:Sit)(J:Frame)(K:iZ)(w2:aB)(O:tyP),tY R S->(∀b,S.D b->R.D b\/S.W b)->(∀f fn c,S.F f->P.funcs[f]?=some fn->fn.body=some c->jO S P Full c)->sZ S P->xu S w->tJ S P X l fr J->wP S P X l K->WR S w w2->Img S O->(∀a,S.D a->D (S.ren a)\/O (S.ren a))->
  P.globals.size<=w->P.globals.size<=w2->∃T,Wk P false (Rl D) (Gd D) (End P X A D κ cs R) T O (Gr J K κ cs) w2:=by
 induction hG with
 | stop fr w hI τ p hAA=>intro S J K w2 O y z _ U G g x Q H o _ _;cases x;refine⟨.leaf,Wk.stop λn I=>⟨S,fr,J,w,y,z,rfl,g,Q.rely G o I,G,H,o,?_⟩⟩;have:=hA _ _ w.tape w.drawn hAA;assumption
 | step fr l w hI F L W E h hs r k ih=>
  intro S J K w2 O y z q U G g x Q H o B V;refine Wk.step rfl λn I=>?_;let⟨v,fr3,l3,w4,es,e1,t,e3,e4,e5,e6,e7,s⟩:=c6o KO (Zn.Inv.tp hI n.tape _) U G g x ((Q.rely G o I).tp _ _) B (ay V I.size) rfl rfl q (λc e=>by obtain h|h:=((k n.tape n.drawn).inv).fr.1.mode<;>(simp_all))<|h _ _
  let M:=λb=>∃a,v.D a/\v.W a/\v.ren a=b
  have ab:∀b,O b->M b:=λb u=>have⟨a,d,j,i⟩:=(H b).1 u;⟨a,t.D a d,t.W a j,(t.ren a d).trans i⟩
  have m:∀a,v.D a->D (v.ren a)\/M (v.ren a):=λa ha=>by
   obtain d|d:=s.dw a ha
   rw[t.ren a d];exact(o a d).imp id (ab _)
   exact .inr ⟨a,ha,d,rfl⟩
  let⟨T,hT⟩:=ih _ _ v fr3 l3 w4 M (y.trans t) (λb u=>(s.dw b u).elim (λh=>(z b h).imp id<|t.W b) .inr) (λf fn c hf d j=>(q f fn c (t.F▸hf) d j).mono t) e3 e4 e5 e6 e7 (λb=>Iff.rfl) m (ay B<|hs _ _)<|ay (ay V I.size) s.size;refine⟨_,w4,es,M,T,e1 κ cs,⟨s.size,s.tape,s.os,s.output,λb u hn=>s.old b u λa d j i=>hn<|(H b).2 ⟨a,d,j,i⟩,ab,λb u=>?_,λb u=>?_,λe r=>?_⟩,hT⟩
  obtain⟨a,d,j,rfl⟩:=u;obtain⟨i,C⟩|i:=s.new a d j
  exact .inl<|(H _).2 ⟨a,C,i,(t.ren a C).symm⟩
  omega
  obtain⟨a,d,j,rfl⟩:=u;let⟨_,_,_,i,_⟩:=e7.obj a d<|e4 a d;exact lt_of_some i
  have:=s.ev e r;let⟨N,wr,sy⟩:=e
  cases N with
  | cell=>
   let⟨d,⟨b,j,i,C⟩,Y⟩:=this;refine⟨d,?_,Y⟩
   cases wr with
   | true=>exact .inl ⟨b,j,C rfl,i⟩
   | false=>exact(i▸m b j).symm.imp id λh=>⟨h,rfl⟩
  | obj=>
   let⟨d,⟨b,j,i⟩,C,Y⟩:=this
   exact⟨d,(i▸m b j).symm,C,Y⟩
  | _=>trivial
end
end Go.Bi
namespace Go.Mw
open Go.Conc Mc Go.RowKit Go.Conc.Lib Go.ConcR.Gen Go.ConcN.Gen
section
theorem rN{γ:Type}{P:Program}{main:Bool}{R j:γ->World->World->Prop}{D k:γ->γ->World->World->Array Event->Prop}{Stop b:γ->Goroutine->World->Prop}(I:γ->World->Prop)
 (e:∀x w w',I x w->j x w w'->I x w')(i:∀x w w',I x w->j x w w'->R x w w')(q:∀x d w w' es,I x w->D x d w w' es->k x d w w' es/\I d w')(l:∀x g w,I x w->Stop x g w->b x g w):
 ∀{T:Tr}{x:γ}{g:iY}{w:aB},I x w->Wk P main R D Stop T x g w->Wk P main j k b T x g w:=by
 intro T
 induction T with
 | leaf=>exactλc h a r=>l _ _ _ (e _ _ _ c r) (h a<|i _ _ _ c r)
 | node f m=>
  intro x g w c h;obtain h|⟨p,h⟩:=h
  exact .inl λa r=>l _ _ _ (e _ _ _ c r) (h a<|i _ _ _ c r)
  refine .inr ⟨p,λa r=>?_⟩;let⟨s,w',es,d,n,t,o⟩:=h a<|i _ _ _ c r;let⟨v,u⟩:=q _ _ _ _ _ (e _ _ _ c r) t;exact⟨s,w',es,d,n,v,m _ u o⟩
variable{Z:Pz}{i bx:Nat}{O:Nat->Prop}{Stop:(Nat->Prop)->Goroutine->World->Prop}{b:Frame}{a:Act}{k:List Item}{cs:List Frame}{w w₁ w':World}{g g':Goroutine}
abbrev Ww(Z:Pz)(i bx:Nat)(Stop:(Nat->Prop)->Goroutine->World->Prop):Tr->(Nat->Prop)->Goroutine->World->Prop:=Wk Z.P false (RW Z i bx) (DW Z i bx) Stop
def Nw(Z:Pz)(O:tyP)(w:aB):Prop:=∀b,O b->Z.L0<=b/\b<w.heap.size
def Nw.rely(h:Nw Z O w)(r:RW Z i bx O w w₁):Nw Z O w₁:=λb a=>⟨(h b a).1,aF (h b a).2 r.size⟩
def Dw(h:Nw Z O w){es:Array Event}(c:∀e∈es,EvW Z i bx O w e):DW Z i bx O O w w es:=
 ⟨ak _,rfl,rfl,rfl,λ_ _ _ _ _=>rfl,id,id,λ_ _=>rfl,λ_ h=>h,λ_ h=>.inl h,λb a=>(h b a).2,c⟩
def c7c(h:∃T,Ww Z i bx Stop T O g w)(r:RW Z i bx O w w₁):∃T,Ww Z i bx Stop T O g w₁:=let ⟨T,h⟩:=h;⟨T,.rely (λ_ _ _ _ a b=>.trans Z a b) h r⟩
def G_(b:Nw Z O w)(a:g.status=.running)(h:∀w,stepG Z.P false g w=.go g' w)(c:∃T,Ww Z i bx Stop T O g' w):∃T,Ww Z i bx Stop T O g w:=
 Wk.step a λw₁ r=>let ⟨T,d⟩:=c7c c r;⟨g',w₁,#[],O,T,h _,Dw (b.rely r)<|aZ,d⟩
def I0(Z:Pz)(bx:Nat)(b:Nat):Prop:=Z.oZ b\/b=bx
structure Kp(Z:Pz)(bx:Nat)(w0 w:World):Prop where
 size:w0.heap.size<=w
 jQ:∀b,Z.oZ b->w.heap[b]?=w0.heap[b]?
 box:w.heap[bx]?=w0.heap[bx]?
 al:oO Z w0->oO Z w
 cb:nX Z w0->nX Z w
 live:ConcN.WgLive Z.ty Z.Wg w0->ConcN.WgLive Z.ty Z.Wg w
theorem b54(p:lZ Z){StopB:(Nat->Prop)->Goroutine->World->Prop}(q:Nw Z O w)(o:Z.L0<=w)(f:¬O bx/\bx<w/\bx≠Z.Al/\bx≠Z.Cb)(h:∃T,Wk Z.P false (Bi.Rl (I0 Z bx)) (Bi.Gd (I0 Z bx)) StopB T O g w)
 (I:∀O g w',StopB O g w'->Nw Z O w'->¬O bx->Kp Z bx w w'->∃T,Ww Z i bx Stop T O g w'):∃T,Ww Z i bx Stop T O g w:=by
 obtain⟨T,L⟩:=h;have j:Ww Z i bx (λO g w'=>StopB O g w'/\Nw Z O w'/\¬O bx/\Kp Z bx w w') T O g w:=by
  refine rN (λO w'=>Nw Z O w'/\Z.L0<=w'/\(¬O bx/\bx<w')/\Kp Z bx w w') ?_ ?_ ?_ ?_ ⟨q,o,⟨f.1,f.2.1⟩,ak _,λ_ _=>rfl,rfl,id,id,id⟩ L
  exactλO x w' h r=>⟨h.1.rely r,ay h.2.1 r.size,⟨h.2.2.1.1,aF h.2.2.1.2 r.size⟩,ay h.2.2.2.size r.size,λb f=>(r.jQ b f).trans<|h.2.2.2.jQ b f,r.box.trans h.2.2.2.box,r.al∘h.2.2.2.al,r.cb∘h.2.2.2.cb,r.live∘h.2.2.2.live⟩
  exactλO w w' _ r=>⟨r.size,λb f=>f.elim (r.jQ b) λe=>e▸r.box,r.own⟩
  intro O P x w' W ⟨q,o,u,t⟩ d;have C:¬O Z.Al:=λh=>by have:=(q _ h).1;have:=p.A0;omega
  have N:¬O Z.Wg:=λh=>by have:=(q _ h).1;have:=p.W0;omega
  have F:=d.old Z.Cb (aF p.C0 o) (λh=>by have:=(q _ h).1;have:=p.C0;omega);have E:oO Z x->oO Z w':=λ⟨v,h⟩=>⟨v,(d.old Z.Al (aF p.A0 o) C).trans h⟩;have D:nX Z x->nX Z w':=λ⟨c,h,V⟩=>⟨c,F.trans h,V⟩;refine⟨⟨d.size,d.tape,d.os,d.output,λb j n _ _=>d.old b j n,E,D,?_,d.more,d.new,d.Tn,?_⟩,(λb f=>⟨(d.new b f).elim (λh=>(q b h).1) λh=>ay o h,d.Tn b f⟩),ay o d.size,⟨λh=>?_,aF u.2 d.size⟩,ay t.size d.size,λb f=>?_,(d.old bx u.2 u.1).trans t.box,E∘t.al,D∘t.cb,λh=>?_⟩
  intro k _;simp[World.cell?,F]
  intro e S;have:=d.ev e S;obtain⟨z,X,Y⟩:=e
  cases z with
  | cell=>
   obtain⟨j,n,A⟩:=this
   exact⟨A,.inr ⟨j,n.elim .inl λh=>.inr<|.inr h⟩⟩
  | obj=>
   let⟨j,n,A,U⟩:=this
   exact⟨U,j,n.elim .inl λh=>.inr ⟨h,A⟩⟩
  | _=>trivial
  obtain h|h:=d.new bx h
  exact u.1 h
  omega
  have j:=(p.jQ b f).1;exact(d.old b (aF j o) λh=>by have:=(q _ h).1;omega).trans (t.jQ b f)
  obtain⟨K,R,n⟩:=t.live h;exact⟨K,R,(d.old _ (aF p.W0 o) N).trans n⟩
  simp_all
 exact Wk.bind (RW.refl Z i bx) (λ_ _ _ _ j n=>RW.trans Z j n) j λO g w'⟨h,Q,f,y⟩=>I O g w' h Q f y
end
section
open Go.ConcR (KK wgBlock WgAt stA smA rd wr mk Payload DC0)
open Go.ConcN (WgLive Has AtR0 DWs)
variable{b e:bT}{c:Frame}
variable[Payload]{L:WgLink}{P:Program}
def qS(P:Program)(g:iY)(w:aB):Prop:=∃a,stepG P false g w=.go a w #[mk .disable]
def pZ(P:Program)(c:bT)(Wg C n Low k:Nat)(g:iY)(w:aB):Prop:=
 ∃b,stepG P false g w=.go b w #[mk (.releaseMerge (stA Wg))]/\∃m,Goes P false (ConcN.RW c Wg C n Low (k - 1)) DC0 (qS P) m b w
def Y6{Wg C n Low i:Nat}(w:aB):ConcN.RW b Wg C n Low i w w:=⟨λ_ _ _ _=>rfl,id,id,rfl⟩
def yq{Wg C n Low i:Nat}(a b c:aB)(h:ConcN.RW e Wg C n Low i a b)(k:ConcN.RW e Wg C n Low i b c):ConcN.RW e Wg C n Low i a c:=
 ⟨λb f j g=>(k.low b f j g).trans<|h.low b f j g,k.live∘h.live,k.pay∘h.pay,k.cell.trans h.cell⟩
section
variable{ty:TypeId}{Wg C n Low k:Nat}{val:Value}{Own Rd:Nat->Loc->Prop}
theorem c5i:∀(m c:Nat)(g:iY)(w:aB),Goes P false (ConcN.RW ty Wg C n Low (k - 1)) (DWs Wg Own Rd C n k) (AtR0 P ty Wg C n Low k val) c g w->Goes P false (ConcN.RW ty Wg C n Low (k - 1)) DC0 (qS P) m g w->False:=by
 have base:∀(c:Nat)(g:iY)(w:aB),Goes P false (ConcN.RW ty Wg C n Low<|k - 1) (DWs Wg Own Rd C n k) (AtR0 P ty Wg C n Low k val) c g w->qS P g w->False:=by
  rintro c g w h ⟨p,e⟩;have b:AtR0 P ty Wg C n Low k val g w->False:=by rintro⟨_,_,o,j,_⟩;rw[e] at j;injection j with _ _ l;have:=congrArg (λx=>x[0]?) l;simp[mk] at this
  cases c with
  | zero=>exact b (h w<|Y6 w)
  | succ=>
   obtain h|⟨_,h⟩:=h
   exact b (h w<|Y6 w)
   have:=h w<|Y6 w;rw[e] at this;exact(this.1.2 (mk _)<|aZ).2.1 rfl
 intro m
 induction m with
 | zero=>exactλc g w h i=>base c g w h (i w<|Y6 w)
 | succ m s=>
  intro c g w h i;obtain i|⟨_,i⟩:=i
  exact base c g w h (i w<|Y6 w)
  let⟨p,f,v,e,⟨t,u⟩,q⟩:=goes_elim (i w<|Y6 w);subst t;have b:AtR0 P ty Wg C n Low k val g f->False:=by rintro⟨_,_,o,j,_⟩;grind
  cases c with
  | zero=>exact b (h f<|Y6 f)
  | succ c=>
   obtain h|⟨_,h⟩:=h
   exact b (h f<|Y6 f)
   have:=h f<|Y6 f;rw[e] at this;exact s c p f this.2 q
theorem c1C:∀(m c:Nat)(g:iY)(w:aB),Goes P false (ConcN.RW ty Wg C n Low (k - 1)) DC0 (pZ P ty Wg C n Low k) m g w->Goes P false (ConcN.RW ty Wg C n Low (k - 1)) (DWs Wg Own Rd C n k) (AtR0 P ty Wg C n Low k val) c g w->
 Goes P false (ConcN.RW ty Wg C n Low (k - 1)) DC0 (AtR0 P ty Wg C n Low k val) m g w:=by
 have base:∀(c:Nat)(g:iY)(w:aB),Goes P false (ConcN.RW ty Wg C n Low<|k - 1) (DWs Wg Own Rd C n k) (AtR0 P ty Wg C n Low k val) c g w->pZ P ty Wg C n Low k g w->AtR0 P ty Wg C n Low k val g w:=by
  rintro c g w h ⟨o,e,m,A⟩
  cases c with
  | zero=>exact h w<|Y6 w
  | succ c=>
   obtain h|⟨_,h⟩:=h
   exact h w<|Y6 w
   have:=h w<|Y6 w;rw[e] at this;exact(c5i m c o w this.2 A).elim
 intro m
 induction m with
 | zero=>exactλc g w j h a r=>base c g a (h.rely yq r)<|j a r
 | succ m s=>
  intro c g w j h;obtain j|⟨v,j⟩:=j
  exact .inl λa r=>base c g a (h.rely yq r)<|j a r
  refine .inr ⟨v,λa r=>?_⟩;let⟨o,i,D,e,⟨B,t⟩,q⟩:=goes_elim (j a r);subst B;subst t;have l:=h.rely yq r;have f:AtR0 P ty Wg C n Low k val g i->False:=by rintro⟨_,_,y,p,_⟩;grind
  rw[e]
  cases c with
  | zero=>exact(f (l i<|Y6 i)).elim
  | succ c=>
   obtain l|⟨_,l⟩:=l
   exact(f (l i<|Y6 i)).elim
   have:=l i<|Y6 i;rw[e] at this;exact⟨⟨rfl,rfl⟩,s c o i q this.2⟩
end
theorem c63(H:WgLib P L){Wg C n Low k:Nat}{val:aX}{cs:iZ}(w:aB)(a:WgLive L.tWg Wg w/\Has C (k - 1) val w):
 Goes P false (ConcN.RW L.tWg Wg C n Low (k - 1)) DC0 (pZ P L.tWg Wg C n Low k) 60 (G ((baseD L.done).at ⟨#[.pointer (some Wg),undef,undef,undef],[]⟩ [.code (body_done L)]) (c::cs)) w:=by
 lib_facts;simp only[body_done,body_add,doneFn,addFn,aG];u_reg kn_rely a
 u_op kn_rely a
 u_in kn_rely a
 refine goes_call rfl rfl (by k_ne) rfl H.f_add (nm_add L) rfl ⟨by u_nil,?_⟩;walk_nrmf addFn
 iterate 12 (first|u_c stepG_seq kn_rely a|u_reg kn_rely a|u_c stepG_region_end kn_rely a|u_cond true kn_rely a|u_conv H.underlying_tWgP H.room_tWg (WgLive.cell0 a.1).choose_spec kn_rely a|u_op kn_rely a)
 refine Goes.stop (λd b=>?_);replace a:=kn_rely a b;clear b;refine⟨_,stepG_markAt .releaseMerge aZ rfl rfl (by k_ne) rfl H.f_relMerge (x_relMerge_n L) (x_relMerge_b L) (x_relMerge_x L) (x_relMerge_f L) (by simp[Act.eval,stA]),10,?_⟩;walk_nrm;iterate 3 (first|u_c stepG_seq kn_rely a|u_c stepG_region_end kn_rely a|u_reg kn_rely a)
 exact Goes.stop (λd b=>⟨_,stepG_mark0 .disable aZ rfl rfl (by k_ne) rfl H.f_disable (x_disable_n L) (x_disable_b L) (x_disable_x L) (x_disable_f L)⟩)
def b8g(H:WgLib P L){Wg C n Low k:Nat}{val:aX}{cs:iZ}{f:Nat}(b:c.mode=.returning)(e:QuitsD P f 0 (G c cs))(w:aB)(d:WgLive L.tWg Wg w/\Has C (k - 1) val w):
 Goes P false (ConcN.RW L.tWg Wg C n Low (k - 1)) DC0 (AtR0 P L.tWg Wg C n Low k val) 60 (G ((baseD L.done).at ⟨#[.pointer (some Wg),undef,undef,undef],[]⟩ [.code (body_done L)]) (c::cs)) w:=
 c1C _ _ _ _ (c63 H w d) (doneN (Own:=λ_ _=>False) (Rd:=λ_ _=>False) H b e w d)
end
end Go.Mw
namespace Go.Bi
section
open Zn (ext low kk Gr K0 Nx Full tp kH Zf)
def Zy:Obj->Obj
 | .cells c e a=>.cells c e (0,max c.size a.2)
 | o=>o
open Classical in
noncomputable def xJ(D:Nat->Prop)(w:World)(o:Obj):World:={w with heap:=(w.heap.mapIdx λb x=>if D b then Zy x else x).push o}
section
variable{D:Nat->Prop}{w:World}{o:Obj}
theorem Dz:(xJ D w o).heap.size=w+1:=by simp[xJ]
open Classical in
theorem ZO{b:Nat}(h:b<w):(xJ D w o).heap[b]?=(w.heap[b]?).map λx=>if D b then Zy x else x:=by unfold xJ;rw[fF,if_neg iw,Array.getElem?_mapIdx]
theorem ZN:(xJ D w o).heap[w.heap.size]?=some o:=by unfold xJ;rw[fF,if_pos<|aZ]
theorem c3l{a:Addr}(h:a.block<w):(xJ D w o).cell? a=w.cell? a:=by
 unfold World.cell?;rw[ZO h]
 cases c:w.heap[a.block]? with
 | none=>rfl
 | some x=>
  by_cases b:D a.block
  simp[if_pos b];cases x<;>rfl
  grind
theorem c6p{Z:Zn.Zone}{Sh:tyP}(h:kH Z Sh w)(i:Zn.je (Zf Z Sh (w+1)) o):kH Z Sh (xJ D w o):=by
 refine⟨λb x a j c=>?_,λb a=>by rw[Dz];have:=h.sh b a;omega,λb a=>⟨by rw[Dz];have:=(h.base b a).1;omega,(h.base b a).2⟩⟩;rw[Dz] at a⊢;by_cases d:b<w.heap.size
 rw[ZO d] at c;obtain⟨y,k,rfl⟩:=bC.1 c;have:=(λh=>h.mono (Zn.jE<|EC _))<|h.obj b y d j k;split
 cases this<;>(constructor<;>assumption)
 trivial
 obtain rfl:b=w.heap.size:=aj
 rw[ZN] at c;grind
end
inductive Plain(D:Nat->Prop):Value->Prop
 | bool (b:Bool):Plain D (.bool b)
 | int (k:IntKind) (n:Int):Plain D (.int k n)
 | string (s:ByteArray):Plain D (.string s)
 | jv (n c:Nat):Plain D (.slice none n c)
 | slice (a:Addr) (n c:Nat) (h:D a.block):Plain D (.slice (some a) n c)
def sS(D:tyP)(F:FuncId->Prop)(T:TypeId->Prop)(m bx:Nat)(K:Tmp->Value)(c:List Deferred)(a:CallKind):Sit:=
 {ren:=λb=>if b=m then bx else b,D:=λb=>D b\/b=m,F:=F,T:=T,W:=λ_=>False,K:=K,Kd:=c,Kk:=a}
section
variable{D:Nat->Prop}{F:FuncId->Prop}{T:TypeId->Prop}{bx:Nat}{K:Tmp->Value}{Kd:List Deferred}{Kk:CallKind}{w w2:World}
theorem Plain.vr{m:Nat}(f:∀b,D b->b≠m){v:aX}(h:Plain D v):VR (sS D F T m bx K Kd Kk) v v:=by
 cases h with
 | bool b=>exact .bool b
 | int k n=>exact .int k n
 | string s=>exact .string s
 | jv n c=>exact .jv n c
 | slice a n c h=>
  have e:rA (sS D F T m bx K Kd Kk) a=a:=by unfold rA sS;simp_all
  have:=VR.slice (S:=sS D F T m bx K Kd Kk) a n c<|.inl h;grind
theorem c3n(c:∀b,D b->b<w.heap.size)(v:aX)(t:bT):xu (sS D F T w bx K Kd Kk) (xJ D w (.cells #[v] t (0,1))):=by
 rintro b (a|rfl)
 rw[Dz];have:=c b a;omega
 rw[Dz];omega
open Classical in
theorem c6q{k:IntKind}{n:Int}{t:bT}(hD:∀b,D b->b<w.heap.size/\w2.heap[b]?=w.heap[b]?/\∃c e fr,w.heap[b]?=some (.cells c e fr)/\∀v∈c,Plain D v)(hbx:w2.heap[bx]?=some (.cells #[.int k n] t))(hb:w<=bx):
 WR (sS D F T w bx K Kd Kk) (xJ D w (.cells #[.int k n] t (0,1))) w2:=by
 have hne:∀b,D b->b≠w.heap.size:=λb h=>by have:=(hD b h).1;omega
 refine⟨?_,?_,?_,?_⟩
 ·rintro a b ha hb' e;have key:∀a,(sS D F T w bx K Kd Kk).D a->(a=w.heap.size/\(sS D F T w bx K Kd Kk).ren a=bx)\/(a<w.heap.size/\(sS D F T w bx K Kd Kk).ren a=a):=by
   rintro a (ha|rfl)
   ·exact .inr ⟨(hD a ha).1,if_neg (hne a ha)⟩
   ·exact .inl ⟨rfl,if_pos rfl⟩
  rcases key a ha with⟨h1,h2⟩|⟨h1,h2⟩<;>rcases key b hb' with⟨h3,h4⟩|⟨h3,h4⟩<;>omega
 ·rintro b hb' (h|rfl)
  ·rw[Dz] at hb';have:=(hD b h).1;omega
  ·rw[Dz] at hb';omega
 ·rintro b (h|rfl) _
  ·obtain⟨h1,h2,c,e,fr,h3,h4⟩:=hD b h;refine⟨Zy (.cells c e fr),.cells c e fr,by rw[ZO h1,h3];simp[h],?_,?_⟩
   ·rw[show(sS D F T w bx K Kd Kk).ren b=b from if_neg (hne b h),h2];exact h3
   ·refine .cells c c e _ fr ⟨rfl,λi h5 h6=>(h4 _ (zQ h5)).vr hne⟩ λi h7 h8=>⟨dD _,aF h8 (Nat.le_max_right _ _)⟩
  ·refine⟨_,_,ZN,?_,.cells _ _ t _ (0,0) (AR.one (.int k n)) λi h7 h8=>by simp at h8⟩;rw[show(sS D F T w bx K Kd Kk).ren w.heap.size=bx from if_pos rfl];exact hbx
 ·rintro b c e fr (h|rfl) _ ho i hi
  ·obtain⟨h1,h2,c',e',fr',h3,h4⟩:=hD b h;rw[ZO h1,h3] at ho;simp only[eP,h,if_true,Zy,dO,Obj.cells.injEq] at ho;obtain⟨rfl,rfl,rfl⟩:=ho;exact⟨dD _,aF hi (Nat.le_max_left _ _)⟩
  ·rw[ZN] at ho;simp only[dO,Obj.cells.injEq] at ho;obtain⟨rfl,rfl,rfl⟩:=ho;exact⟨dD _,by simpa using hi⟩
end
theorem VR.right{S:Sit}{Z:Zn.Zone}(m:∀b,S.D b->Z.D (S.ren b))(q:∀f,S.F f->Z.F f)(y:∀t,S.T t->Z.T t){v v':aX}(h:VR S v v'):Zn.VP Z v':=by
 induction h with
 | bool b=>exact .bool b
 | int k n=>exact .int k n
 | string s=>exact .string s
 | kK=>exact .kK
 | ptr a h=>exact .ptr _<|m _ h
 | jv n c=>exact .jv n c
 | slice a n c h=>exact .slice _ n c<|m _ h
 | func D B f C c o h r w j l u=>
  refine .func _ _ _ ?_ ?_ ?_
  cases h with
  | func f h=>exact .func f<|q f h
  intro x e;obtain⟨i,d,rfl⟩:=gG.1 e;exact u i (r▸d) d
  intro x e;obtain⟨i,d,rfl⟩:=gG.1 e
  grind
 | iface t v v' z h g=>exact .iface t _ (y t z) g
 | nilIface=>exact .nilIface
 | agg=>
  refine .agg _ λx e=>?_;obtain⟨i,d,rfl⟩:=gG.1 e
  grind
 | tuple=>refine .tuple _ λx e=>?_;obtain⟨i,d,rfl⟩:=gG.1 e;grind
theorem zZ.right{S:Sit}{Z:Zn.Zone}(d:∀b,S.D b->Z.D (S.ren b))(n:∀f,S.F f->Z.F f)(m:∀t,S.T t->Z.T t){o g:Obj}(h:zZ S o g):Zn.je Z g:=by
 cases h with
 | cells c s e r k h=>
  refine .cells _ _ _ λx q=>?_;obtain⟨i,j,rfl⟩:=gG.1 q
  exact(h.at_ i (h.size▸j) j).right d n m
 | number a l h=>exact .number _ l<|d _ h
theorem b9W{P:Program}{Z:Zn.Zone}{Sh:tyP}{X:Tmp->Prop}{b:Frame}{a:Act}{w:aB}{c:Code}{Q0:Exit->Act->World->Prop}{A:Frame->World->Prop}(r:∀g,Zn.Le Z g->Zn.t_ g P)(l:To.Iv Z Sh X a w)(k:b.kind=.normal)(s:Zn.gV Z c)(t:Zn.iW X c)
 (h:∀τ p,c.wp P Q0 a (tp w τ p))(v:∀e a' w',Q0 e a' w'->e=.normal/\A (b.at a' K0) w')(m:∀F w,A F w->∃a',F=b.at a' K0):Zn.vK P Z Sh X A (b.at a [.code c]) [] w:=by
 refine Zn.uy (λF w' u c i=>?_) r (l.inv k s t) λτ p=>?_
 obtain⟨a',rfl⟩:=m F _ u;cases i
 let⟨e,a',w',j,f⟩:=h τ p b K0 [Zn.c0];obtain⟨rfl,o⟩:=v e _ _ j;let⟨n,q⟩:=f;exact⟨n,_,q,_,_,rfl,o⟩
end
end Go.Bi
