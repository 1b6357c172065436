/- A part of what the last file proves. -/
import Derived.Test.YtgpbhjjajpbeeaaGreatDoorO16
set_option linter.all false
set_option maxRecDepth 100000
set_option maxHeartbeats 4000000
open Go.Proofs.Tryz
namespace Go.Bi
section
variable{S:Sit}{P:Program}
theorem PP(ts:Array TypeId)(t:TypeId){e:TypeId}(ht:∀u,ts[0]?=some u->P.underlying u=some (.slice e)){args args':Array Value}(h:AR S args args'):Im S P (VR S) (Builtin.len_ ts t args) (Builtin.len_ ts t args'):=by
 unfold Builtin.len_
 cases h0:ts[0]? with
 | none=>exact A8 _ _
 | some u=>
  rcases h.get? 0 with⟨e1,e2⟩|⟨x,x',e1,e2,hx⟩
  ·rw[e1,e2];exact A8 _ _
  ·rw[e1,e2];dsimp only;refine Im.bind (F5 u) ?_;rintro _ d ⟨rfl,hd⟩;rw[ht u h0] at hd;injection hd with hd;subst hd;cases hx<;>first|exact Im.pure (.int _ _)|exact A8 _ _
theorem Uj{x x':Value}(h:VR S x x'):Im S P (λa b=>b=a) (Builtin.lenOf x) (Builtin.lenOf x'):=by
 cases h<;>first|exact Im.pure rfl|exact A8 _ _
theorem b9S(s:ByteArray)(n:Nat):AR S ((s.extract 0 n).data.map λb=>.int .u8 b.toNat) ((s.extract 0 n).data.map λb=>.int .u8 b.toNat):=
 ⟨rfl,λi h1 h2=>by simp only[mM];exact .int _ _⟩
theorem V8(size n:Nat){x x':Value}(h:VR S x x'):Im S P (AR S) (Builtin.firstCells size n x) (Builtin.firstCells size n x'):=by
 cases h with
 | gy=>exact Im.pure AR.nil
 | slice a l c ha=>exact c_ ha _
 | string s=>exact Im.pure (b9S s n)
 | _=>exact A8 _ _
theorem Ri{z z':Array Value}(h:AR S z z')(n:Nat):AR S (Builtin.zeroCells z n) (Builtin.zeroCells z' n):=by
 unfold Builtin.zeroCells;rw[h.size];exact h.size▸ag h (n*z.size)
theorem Va{α β:Type}{R:α->β->Prop}(size sLen n c:Nat){base base':Option Addr}(hb:VR S (.slice base sLen c) (.slice base' sLen c)){x x':Value}(hx:VR S x x'){f:Bool->Sem α}{f':Bool->Sem β}(hf:∀b,Hs P (f b))(him:∀b,Im S P R (f b) (f' b)):
 Im S P R (Builtin.mayShare size sLen n base x >>= f) (Builtin.mayShare size sLen n base' x' >>= f'):=by
 have key:∀{s:Sem α}{r:Nat}{k:Option (TypeId×Nat)->Sem α}{s':Sem β},s=.shape r k->Hs P s->Im S P R s s':=by
  rintro _ r k s' rfl h;exact Im.qX h
 cases hb with
 | gy=>
  cases hx with
  | slice b l c hb=>exact key (r:=b.block) rfl (Hs.behind _ hf)
  | _=>exact him false
 | slice a l c ha=>exact key (r:=a.block) rfl (Hs.behind _ hf)
theorem TK{α:Type}(b:Bool)(x:Unsupported):Hs P (if (!b)=true then do mark .noRoom;(unsupported x:Sem α) else unsupported x):=by
 cases b<;>exact(trivial:Hs P (unsupported x:Sem α))
theorem TJ{α β:Type}{R:α->β->Prop}(b:Bool)(x:Unsupported):Im S P R (if (!b)=true then do mark .noRoom;(unsupported x:Sem α) else unsupported x) (if (!b)=true then do mark .noRoom;(unsupported x:Sem β) else unsupported x):=
 qL _ (λ_=>Im.bind (vQ trivial) λ_ _ _=>y9 _ _) λ_=>y9 _ _
theorem b7r(ts:Array TypeId)(t:TypeId){e:TypeId}(ht:∀u,ts[0]?=some u->P.underlying u=some (.slice e))(hz:mF S P e){e':TypeId}(ht':∀u,ts[1]?=some u->P.underlying u=some (.slice e'))
 {args args':Array Value}(h:AR S args args'):Im S P (VR S) (Builtin.append_ ts t args) (Builtin.append_ ts t args'):=by
 unfold Builtin.append_
 cases h0:ts[0]? with
 | none=>exact A8 _ _
 | some u=>
  rcases h.get? 0 with⟨e1,e2⟩|⟨s,s',e1,e2,hs⟩
  ·rw[e1,e2];exact A8 _ _
  rcases h.get? 1 with⟨e3,e4⟩|⟨x,x',e3,e4,hx⟩
  ·rw[e1,e2,e3,e4];exact A8 _ _
  rw[e1,e2,e3,e4];dsimp only;refine Im.bind (F5 u) ?_;rintro _ d ⟨rfl,hd⟩;rw[ht u h0] at hd;injection hd with hd;subst hd;dsimp only;have hs0:=hs;have hz0:∀n,Im S P (AR S) (do pure (Builtin.zeroCells (<-zeroValue e).cells n):Sem (Array Value)) (do pure (Builtin.zeroCells (<-zeroValue e).cells n)):=λn=>Im.bind (Y1 e hz) λz z' hz=>Im.pure (Ri hz.cells n);have BF:∀{α β α':Type}{R:α->β->Prop}(er:RuntimeError)(he:qe er)(g:α'->Sem α)(g':α'->Sem β),Im S P R (runtimePanic er >>= g) (runtimePanic er >>= g'):=λer he g g'=>Im.bind (R:=λ_ _=>False) (Q7 er he) λ_ _ h=>h.elim
  cases hs with
  | gy l c=>
   cases h1:ts[1]? with
   | none=>
    dsimp only;refine Im.bind (U3 _) ?_;rintro size _ rfl;simp only[cu,if_false,lQ,if_true,pure_bind,false_or]
    repeat' first
     | with_reducible exact Im.pure (.gy _ _)
     | with_reducible exact Im.pure (.slice _ _ _ (by assumption))
     | (with_reducible refine Im.bind (Y0 _) ?_;rintro _ _ ⟨rfl,_⟩)
     | (with_reducible refine Im.bind (Uj hx) ?_;rintro _ _ rfl)
     | (with_reducible refine Im.bind (QG _) ?_;rintro _ _ rfl)
     | (with_reducible refine Im.bind (Uy _) ?_;intro _ _ _)
     | (with_reducible refine Im.bind (V8 _ _ hs0) ?_;intro old old' hold)
     | (with_reducible refine Im.bind (V8 _ _ hx) ?_;intro new new' hnew)
     | (with_reducible refine Im.bind (Y1 e hz) ?_;intro z z' hzz)
     | (rw[<-zl];refine Im.bind (Rh (by rw[add_block];assumption) _ _ _ (AR.list (by assumption))) ?_;intro _ _ _)
     | (with_reducible refine Im.bind (KC _ ((AR.append (by assumption) (by assumption)).append (Ri (VR.cells (by assumption)) _))) ?_;rintro _ _ ⟨_,rfl⟩)
     | (refine BF _ ?_ _ _;trivial)
     | exact Im.bind (R:=λ_ _=>False) (Va _ _ _ _ hs0 hx (λb=>TK b _) (λb=>TJ b _)) λ_ _ h=>h.elim
     | with_reducible refine qL _ (λ_=>?_) λ_=>?_
   | some u1=>
    dsimp only;refine Im.bind (U3 _) ?_;rintro size _ rfl;refine Im.bind (F5 u1) ?_;rintro _ d ⟨rfl,hd⟩;rw[ht' u1 h1] at hd;injection hd with hd;subst hd;simp only[cu,if_false,lQ,if_true,pure_bind,false_or]
    repeat' first
     | with_reducible exact Im.pure (.gy _ _)
     | with_reducible exact Im.pure (.slice _ _ _ (by assumption))
     | (with_reducible refine Im.bind (Y0 _) ?_;rintro _ _ ⟨rfl,_⟩)
     | (with_reducible refine Im.bind (Uj hx) ?_;rintro _ _ rfl)
     | (with_reducible refine Im.bind (QG _) ?_;rintro _ _ rfl)
     | (with_reducible refine Im.bind (Uy _) ?_;intro _ _ _)
     | (with_reducible refine Im.bind (V8 _ _ hs0) ?_;intro old old' hold)
     | (with_reducible refine Im.bind (V8 _ _ hx) ?_;intro new new' hnew)
     | (with_reducible refine Im.bind (Y1 e hz) ?_;intro z z' hzz)
     | (rw[<-zl];refine Im.bind (Rh (by rw[add_block];assumption) _ _ _ (AR.list (by assumption))) ?_;intro _ _ _)
     | (with_reducible refine Im.bind (KC _ ((AR.append (by assumption) (by assumption)).append (Ri (VR.cells (by assumption)) _))) ?_;rintro _ _ ⟨_,rfl⟩)
     | (refine BF _ ?_ _ _;trivial)
     | exact Im.bind (R:=λ_ _=>False) (Va _ _ _ _ hs0 hx (λb=>TK b _) (λb=>TJ b _)) λ_ _ h=>h.elim
     | with_reducible refine qL _ (λ_=>?_) λ_=>?_
  | slice a l c ha=>
   cases h1:ts[1]? with
   | none=>
    dsimp only;refine Im.bind (U3 _) ?_;rintro size _ rfl;simp only[cu,if_false,lQ,if_true,pure_bind,false_or]
    repeat' first
     | with_reducible exact Im.pure (.gy _ _)
     | with_reducible exact Im.pure (.slice _ _ _ (by assumption))
     | (with_reducible refine Im.bind (Y0 _) ?_;rintro _ _ ⟨rfl,_⟩)
     | (with_reducible refine Im.bind (Uj hx) ?_;rintro _ _ rfl)
     | (with_reducible refine Im.bind (QG _) ?_;rintro _ _ rfl)
     | (with_reducible refine Im.bind (Uy _) ?_;intro _ _ _)
     | (with_reducible refine Im.bind (V8 _ _ hs0) ?_;intro old old' hold)
     | (with_reducible refine Im.bind (V8 _ _ hx) ?_;intro new new' hnew)
     | (with_reducible refine Im.bind (Y1 e hz) ?_;intro z z' hzz)
     | (rw[<-zl];refine Im.bind (Rh (by rw[add_block];assumption) _ _ _ (AR.list (by assumption))) ?_;intro _ _ _)
     | (with_reducible refine Im.bind (KC _ ((AR.append (by assumption) (by assumption)).append (Ri (VR.cells (by assumption)) _))) ?_;rintro _ _ ⟨_,rfl⟩)
     | (refine BF _ ?_ _ _;trivial)
     | exact Im.bind (R:=λ_ _=>False) (Va _ _ _ _ hs0 hx (λb=>TK b _) (λb=>TJ b _)) λ_ _ h=>h.elim
     | with_reducible refine qL _ (λ_=>?_) λ_=>?_
   | some u1=>
    dsimp only;refine Im.bind (U3 _) ?_;rintro size _ rfl;refine Im.bind (F5 u1) ?_;rintro _ d ⟨rfl,hd⟩;rw[ht' u1 h1] at hd;injection hd with hd;subst hd;simp only[cu,if_false,lQ,if_true,pure_bind,false_or]
    repeat' first
     | with_reducible exact Im.pure (.gy _ _)
     | with_reducible exact Im.pure (.slice _ _ _ (by assumption))
     | (with_reducible refine Im.bind (Y0 _) ?_;rintro _ _ ⟨rfl,_⟩)
     | (with_reducible refine Im.bind (Uj hx) ?_;rintro _ _ rfl)
     | (with_reducible refine Im.bind (QG _) ?_;rintro _ _ rfl)
     | (with_reducible refine Im.bind (Uy _) ?_;intro _ _ _)
     | (with_reducible refine Im.bind (V8 _ _ hs0) ?_;intro old old' hold)
     | (with_reducible refine Im.bind (V8 _ _ hx) ?_;intro new new' hnew)
     | (with_reducible refine Im.bind (Y1 e hz) ?_;intro z z' hzz)
     | (rw[<-zl];refine Im.bind (Rh (by rw[add_block];assumption) _ _ _ (AR.list (by assumption))) ?_;intro _ _ _)
     | (with_reducible refine Im.bind (KC _ ((AR.append (by assumption) (by assumption)).append (Ri (VR.cells (by assumption)) _))) ?_;rintro _ _ ⟨_,rfl⟩)
     | (refine BF _ ?_ _ _;trivial)
     | exact Im.bind (R:=λ_ _=>False) (Va _ _ _ _ hs0 hx (λb=>TK b _) (λb=>TJ b _)) λ_ _ h=>h.elim
     | with_reducible refine qL _ (λ_=>?_) λ_=>?_
  | _=>exact A8 _ _
end
section
variable{S:Sit}{P:Program}
def Eh(S:Sit):Operand->Prop
 | .tmp _=>True
 | .const v=>VR S v v
 | .global _=>False
 | .func f=>S.F f
def Y_(S:Sit)(P:Program)(c:Call):Prop:=
 match c.callee with
 | .value (.func f)=>S.F f
 | .builtin .len=>∃e,∀u,c.argTypes[0]?=some u->P.underlying u=some (.slice e)
 | .builtin .append=>∃e e',(∀u,c.argTypes[0]?=some u->P.underlying u=some (.slice e))/\mF S P e/\∀u,c.argTypes[1]?=some u->P.underlying u=some (.slice e')
 | _=>False
def Ie(S:Sit)(P:Program):Op->Prop
 | .move _|.assign _|.pick .. | .load .. | .store .. | .nilCheck _|.extract .. | .indexAddr .. | .slice .. | .unOp ..=>True
 | .alloc t=>mF S P t
 | .build t _=>mF S P t
 | .buildSlice t _ _=>∀e,P.underlying t=some (.slice e)->mF S P e
 | .binOp op t _ y _=>SV op=true\/((op=.eql\/op=.neq)/\Td P t y)
 | .convert s d _=>YL P s d
 | .makeInterface t _=>S.T t
 | .fieldAddr s _ f=>∀fs g i,P.underlying s=some (.struct fs)->fs[f]?=some g->P.info? g.type=some i->i.size≠0
 | .call c=>Y_ S P c
 | _=>False
inductive CJ(S:Sit):Next->Next->Prop
 | value (v v':Value) (h:VR S v v'):CJ S (.value v) (.value v')
 | skip:CJ S .skip .skip
 | enter (f:FuncId) (args args':Array Value) (hf:S.F f) (h:AR S args args'):CJ S (.enter f args) (.enter f args')
theorem sK{s s':Sem Value}(h:Im S P (VR S) s s'):Im S P (CJ S) (do pure (.value (<-s))) (do pure (.value (<-s'))):=Im.bind h λ_ _ hv=>Im.pure (.value _ _ hv)
theorem AM{s s':Sem Unit}(h:Im S P (λ_ _=>True) s s'):Im S P (CJ S) (do s;pure .skip) (do s';pure .skip):=Im.bind h λ_ _ _=>Im.pure .skip
structure qp(S:Sit)(P:Program):Prop extends PQG S P where
 body:∀f,S.F f->∃fn,P.funcs[f]?=some fn/\fn.body.isNone=false/\(fn.name== "runtime.NumGoroutine")=false
theorem qp.Lp(h:qp S P):POK S P:=⟨h.inj⟩
theorem b3f(hP:qp S P){f:FuncId}(hf:S.F f){args args':Array Value}(h:AR S args args'):Im S P (CJ S) (callFunc f args) (callFunc f args'):=by
 obtain⟨fn,h1,h2,h3⟩:=hP.body f hf;unfold callFunc;refine Im.bind Y9 ?_;rintro p p' ⟨h0,h0'⟩;rw[h0,h0',h1];dsimp only;rw[h3,h2];exact Im.pure (.enter f _ _ hf h)
theorem PM{l:Array Operand}{ρ ρ':Operand->Value}(h:∀x∈l,VR S (ρ x) (ρ' x)):AR S (l.map ρ) (l.map ρ'):=
 ⟨by simp,λi h1 h2=>by simp only[mM];exact h _ (iY _)⟩
theorem Zl{l:Option Operand}{ρ ρ':Operand->Value}(h:∀x,l=some x->VR S (ρ x) (ρ' x)):OR S (l.map ρ) (l.map ρ'):=by
 cases l with
 | none=>exact .none
 | some x=>exact .some (h x rfl)
theorem C6{ps:Array (Nat×Operand)}{ρ ρ':Operand->Value}(h:∀p∈ps,VR S (ρ p.2) (ρ' p.2)):LR (PR (S:=S)) (ps.map λ(i,x)=>(i,ρ x)).toList (ps.map λ(i,x)=>(i,ρ' x)).toList:=by
 obtain⟨l⟩:=ps;simp only[eH]
 induction l with
 | nil=>exact .nil
 | cons p l ih=>
  exact .cons ⟨rfl,h p (by simp)⟩ (ih λq hq=>h q (by simp at hq⊢;exact .inr hq))
theorem b7s(hP:qp S P){ρ ρ':Operand->Value}{o:Oper}(hk:Ie S P o.op)(hρ:∀x∈o.op.operands,VR S (ρ x) (ρ' x))(hc:∀v,ρ (.const v)=v/\ρ' (.const v)=v)(hfn:∀f,ρ (.func f)=.func (.func f) #[] #[]/\ρ' (.func f)=.func (.func f) #[] #[]):
 Im S P (CJ S) (execOp ρ o) (execOp ρ' o):=by
 obtain⟨dst,op,type,pos,after,guard⟩:=o;dsimp only at hk hρ;have hv:∀x,x∈op.operands->VR S (ρ x) (ρ' x):=hρ;unfold execOp
 cases op with
 | move x=>exact Im.pure (.value _ _ (hv x (by simp[Op.operands])))
 | assign x=>exact Im.pure (.value _ _ (hv x (by simp[Op.operands])))
 | pick c a b=>
  refine Im.bind (b7l (hv c (by simp[Op.operands]))) ?_;rintro t _ rfl;refine Im.pure (.value _ _ ?_);split
  ·exact hv a (by simp[Op.operands])
  ·exact hv b (by simp[Op.operands])
 | alloc e=>exact sK (b9J _ hk)
 | build t ps=>
  refine sK (b9L _ hk (C6 λp hp=>hv p.2 ?_))
  simp[Op.operands];exact⟨p.1,by simpa using hp⟩
 | buildSlice t l ps=>
  refine sK (a97 _ hk _ (C6 λp hp=>hv p.2 ?_))
  simp[Op.operands];exact⟨p.1,by simpa using hp⟩
 | load t a=>exact sK (b7n _ (hv a (by simp[Op.operands])))
 | store t a x=>exact AM (b4z _ (hv a (by simp[Op.operands])) (hv x (by simp[Op.operands])))
 | nilCheck x=>
  have h:=hv x (by simp[Op.operands]);dsimp only;generalize ρ x=v at h;generalize ρ' x=v' at h;have h0:=h
  cases h with
  | jc=>exact Q7 _ trivial
  | nilIface=>exact Q7 _ trivial
  | func fn fn' f f' c c' hf=>cases hf;exact Im.pure (.value _ _ h0)
  | _=>exact Im.pure (.value _ _ h0)
 | binOp op t x y u=>
  have hx:=hv x (by simp[Op.operands]);have hy:=hv y (by simp[Op.operands]);rcases hk with hk|⟨hk,hcmp⟩
  ·refine sK (Im.bind (R:=λ_ _=>True) ?_ λ_ _ _=>b9P hP.toPGK _ hk _ hx hy);cases op<;>first|exact absurd hk (by decide)|exact Im.pure trivial
  ·cases hcmp with
   | int k ht=>exact sK (Im.bind (b3b _ _ ht _ _ hx hy) λ_ _ _=>C7 _ hk _ hx hy (FO hP.toPQG _ ht hx hy))
   | nil ms ht=>
    dsimp only;rw[(hc .nilIface).1,(hc .nilIface).2] at hy⊢
    exact sK (Im.bind (b3c _ _ _ hx) λ_ _ _=>C7 _ hk _ hx hy (b9Q _ ht hx))
 | unOp op t x=>exact sK (b9O _ (hv x (by simp[Op.operands])))
 | convert s d x=>exact sK (b4F hk (hv x (by simp[Op.operands])))
 | makeInterface t x=>exact sK (a6H _ hk (hv x (by simp[Op.operands])))
 | slice t x l h m=>exact sK (b4C hP.Lp _ (hv x (by simp[Op.operands])) (Zl λy e=>hv y (by simp[Op.operands,e])) (Zl λy e=>hv y (by simp[Op.operands,e])) (Zl λy e=>hv y (by simp[Op.operands,e])))
 | fieldAddr s x f=>exact sK (b4A _ _ hk (hv x (by simp[Op.operands])))
 | indexAddr t x i=>exact sK (b4B hP.Lp _ (hv x (by simp[Op.operands])) (hv i (by simp[Op.operands])))
 | extract x i=>exact sK (b4D _ (hv x (by simp[Op.operands])))
 | call c=>
  obtain⟨callee,args,tys⟩:=c;have ha:AR S (args.map ρ) (args.map ρ'):=PM λx hx=>hv x (by simp[Op.operands,Call.operands,hx])
  cases callee with
  | value f=>
   cases f with
   | func f=>
    unfold resolve;dsimp only;rw[(hfn f).1,(hfn f).2];show Im S P (CJ S) (callFunc f ((#[]++args.map ρ)++#[])) (callFunc f ((#[]++args.map ρ')++#[]));simp only[uz,gQ]
    exact b3f hP hk ha
   | _=>exact hk.elim
  | invoke r n=>exact hk.elim
  | builtin b=>
   cases b<;>first|exact(hk:False).elim|skip
   ·obtain⟨e,e',h1,h2,h3⟩:=hk;exact sK (b7r _ _ h1 h2 h3 ha)
   ·obtain⟨e,h1⟩:=hk
    exact sK (PP _ _ h1 ha)
 | _=>exact hk.elim
end
section
open Zn (ext low kk Gr K0 Nx)
variable{S:Sit}{P:Program}
structure qN(S S':Sit):Prop where
 F:S'.F=S.F
 T:S'.T=S.T
 D:∀b,S.D b->S'.D b
 ren:∀b,S.D b->S'.ren b=S.ren b
 W:∀b,S.W b->S'.W b
 old:∀b,S.D b->S'.W b->S.W b
 k:S'.K=S.K/\S'.Kd=S.Kd/\S'.Kk=S.Kk
theorem qN.refl(S:Sit):qN S S:=⟨rfl,rfl,λ_ h=>h,λ_ _=>rfl,λ_ h=>h,λ_ _ h=>h,rfl,rfl,rfl⟩
theorem qN.trans{A B C:Sit}(h:qN A B)(k:qN B C):qN A C:=
 ⟨k.F.trans h.F,k.T.trans h.T,λb x=>k.D b (h.D b x),λb x=>(k.ren b (h.D b x)).trans (h.ren b x),λb x=>k.W b (h.W b x),λb x y=>h.old b x (k.old b (h.D b x) y),k.k.1.trans h.k.1,k.k.2.1.trans h.k.2.1,k.k.2.2.trans h.k.2.2⟩
section
variable{S':Sit}(hL:qN S S')
include hL
theorem qN.rA{a:Addr}(h:S.D a.block):Bi.rA S' a=Bi.rA S a:=by unfold Bi.rA;rw[hL.ren _ h]
theorem VR.mono{v v':Value}(h:VR S v v'):VR S' v v':=by
 induction h with
 | bool b=>exact .bool b
 | int k n=>exact .int k n
 | string s=>exact .string s
 | jc=>exact .jc
 | ptr a h=>rw[<-hL.rA h];exact .ptr a (hL.D _ h)
 | gy n c=>exact .gy n c
 | slice a n c h=>rw[<-hL.rA h];exact .slice a n c (hL.D _ h)
 | func fn fn' f f' c c' h hf _ hc _ MS MV=>
  refine .func fn fn' f f' c c' ?_ hf MS hc MV
  cases h with
  | func f h=>exact .func f (hL.F▸h)
 | iface t v v' ht h ih=>exact .iface t v v' (hL.T▸ht) ih
 | nilIface=>exact .nilIface
 | agg c c' hc _ ih=>exact .agg c c' hc ih
 | tuple c c' hc _ ih=>exact .tuple c c' hc ih
theorem AR.mono{c c':Array Value}(h:AR S c c'):AR S' c c':=⟨h.size,λi h1 h2=>(h.at_ i h1 h2).mono hL⟩
theorem xk.mono{o o':Obj}(h:xk S o o'):xk S' o o':=by
 cases h with
 | cells c c' e fr fr' h hf=>exact .cells _ _ _ _ _ (h.mono hL) hf
 | number a l h=>rw[<-hL.rA h];exact .number _ _ (hL.D _ h)
theorem mF.mono{t:TypeId}(h:mF S P t):mF S' P t:=λi z hi hz=>(h i z hi hz).mono hL
theorem Eh.mono{x:Operand}(h:Eh S x):Eh S' x:=by
 cases x with
 | tmp t=>trivial
 | const v=>exact VR.mono hL h
 | global g=>exact h
 | func f=>exact(hL.F▸h:S'.F f)
theorem Ie.mono{o:Op}(h:Ie S P o):Ie S' P o:=by
 cases o
 case alloc t=>exact mF.mono hL h
 case build t ps=>exact mF.mono hL h
 case buildSlice t n ps=>exactλe he=>mF.mono hL (h e he)
 case makeInterface t x=>exact(show S'.T t by rw[hL.T];exact h)
 case call c=>
  obtain⟨callee,args,tys⟩:=c
  cases callee with
  | value f=>
   cases f with
   | func f=>exact(show S'.F f by rw[hL.F];exact h)
   | _=>exact h.elim
  | invoke r n=>exact h.elim
  | builtin b=>
   cases b<;>first|exact(h:False).elim|skip
   ·obtain⟨e,e',h1,h2,h3⟩:=h;exact⟨e,e',h1,h2.mono hL,h3⟩
   ·exact h
 all_goals exact h
end
def uy(S:Sit)(w:World):Prop:=∀b,S.D b->b<w.heap.size
def Sit.up(S:Sit)(n n' m:Nat):Sit:={ren:=λb=>if b<n then S.ren b else n'+(b - n),D:=λb=>S.D b\/(n<=b/\b<n+m),F:=S.F,T:=S.T,W:=λb=>S.W b\/(n<=b/\b<n+m),K:=S.K,Kd:=S.Kd,Kk:=S.Kk}
theorem sq{w:World}(hc:uy S w)(n' m:Nat):qN S (S.up w.heap.size n' m):=
 ⟨rfl,rfl,λb h=>.inl h,λb h=>if_pos (hc b h),λb h=>.inl h,λb h k=>k.elim id λk=>absurd (hc b h) (by omega),rfl,rfl,rfl⟩
theorem sk{w w':World}(hc:uy S w)(hW:WR S w w')(m:Nat):WR (S.up w.heap.size w'.heap.size m) w w':=by
 have im:∀b,S.D b->S.ren b<w'.heap.size:=λb hb=>by
  obtain⟨_,_,_,h,_⟩:=hW.obj b hb (hc b hb);exact lt_of_some h
 refine⟨λa b ha hb e=>?_,λb hb hD=>?_,λb hb hlt=>?_,λb c e fr hb hn ho=>?_⟩
 ·unfold Sit.up at ha hb e;dsimp only at ha hb e;rcases ha with ha|ha<;>rcases hb with hb|hb
  ·rw[if_pos (hc a ha),if_pos (hc b hb)] at e;exact hW.inj a b ha hb e
  ·rw[if_pos (hc a ha),if_neg (by omega)] at e;have:=im a ha;omega
  ·rw[if_pos (hc b hb),if_neg (by omega)] at e;have:=im b hb;omega
  ·rw[if_neg (by omega),if_neg (by omega)] at e;omega
 ·unfold Sit.up;dsimp only;rw[if_neg (by omega)];omega
 ·rcases hb with hb|hb
  ·obtain⟨o,o',h1,h2,h3⟩:=hW.obj b hb hlt;refine⟨o,o',h1,?_,h3.mono (sq hc _ _)⟩;show w'.heap[if b<w.heap.size then S.ren b else _]?=_;rw[if_pos hlt];exact h2
  ·omega
 ·have hb':S.D b:=by
   rcases hb with hb|hb
   ·exact hb
   ·have:=lt_of_some ho;omega
  exact hW.ro b c e fr hb' (λh=>hn (.inl h)) ho
theorem PH{w w':World}(hP:qp S P)(hc:uy S w)(hW:WR S w w')(h1:P.globals.size<=w.heap.size)(h2:P.globals.size<=w'.heap.size)(m:Nat):qp (S.up w.heap.size w'.heap.size m) P:=by
 refine⟨⟨⟨λb hb=>?_,(sk hc hW m).inj⟩,λb hb=>?_⟩,hP.body⟩
 ·rcases hb with hb|hb
  ·exact hP.high b hb
  ·omega
 ·show _<=if b<w.heap.size then S.ren b else _
  rcases hb with hb|hb
  ·rw[if_pos (hc b hb)];exact hP.high' b hb
  ·rw[if_neg (by omega)];omega
theorem both{α β:Type}{R:Sit->α->β->Prop}{s:Sem α}{s':Sem β}{w w' u:World}{a:α}(hP:qp S P)(hc:uy S w)(hW:WR S w w')(h1:P.globals.size<=w.heap.size)(h2:P.globals.size<=w'.heap.size)(ht:w'.tape=w.tape)(hd:w'.drawn=w.drawn)
 (h:∀S',qN S S'->qp S' P->Im S' P (R S') s s')(hr:s.run P w=.ok a u):
 ∃S' b u' es,s'.runT P w' #[]=(.ok b u',es)/\qN S S'/\qp S' P/\uy S' u/\R S' a b/\WR S' u u'/\w.heap.size<=u.heap.size/\w'.heap.size<=u'.heap.size/\u'.tape=w'.tape/\u'.drawn=u.drawn/\u.tape=w.tape/\u'.os=w'.os/\u'.output=w'.output/\
  (∀e∈es,jd S' u'.heap.size e)/\(∀b,b<w'.heap.size->(∀a,S.D a->S.W a->S.ren a≠b)->u'.heap[b]?=w'.heap[b]?)/\(∀b,S'.D b->S'.W b->S.W b/\S.D b\/w'.heap.size<=S'.ren b)/\(∀b,S'.D b->S.D b\/S'.W b):=by
 have hsz:=F2 hr;have hL:=sq hc w'.heap.size (u.heap.size - w.heap.size);have hP':=PH hP hc hW h1 h2 (u.heap.size - w.heap.size);have hW':=sk hc hW (u.heap.size - w.heap.size);obtain⟨b,u',new,e1,e2,e3,e4,e5⟩:=(h _ hL hP').run hW' hr (λi hi=>⟨.inr ⟨by omega,by omega⟩,.inr ⟨by omega,by omega⟩,by
  show(if w.heap.size+i<w.heap.size then _ else _)=_;rw[if_neg (by omega)];omega⟩) (λi q _=>by rw[ht,hd]) #[]
 have hdr:=Lx hr;refine⟨_,b,u',new,by simpa using e1,hL,hP',λb hb=>?_,e2,e3,hsz,by have:=e4.size';omega,e4.tape',by have:=e4.drawn';omega,hdr.2,e4.os',e4.output',e5,λb hb hn=>e4.old b hb λa ha hWa hlt e=>?_,λb hb ri=>?_,λb hb=>hb.imp id .inr⟩
 ·rcases hb with hb|hb
  ·have:=hc b hb;omega
  ·omega
 ·have sn:S.D a:=ha.elim id λx=>absurd x.1 (by omega);have XY:S.W a:=hWa.elim id λx=>absurd x.1 (by omega);refine hn a sn XY ?_;rw[<-e];exact(if_pos hlt).symm
 ·rcases hb with hb|hb
  ·exact .inl ⟨hL.old b hb ri,hb⟩
  ·right;show _<=if b<w.heap.size then _ else _
   rw[if_neg (by omega)];omega
end
section
open Zn (ext low kk Gr K0 Nx wM O3 wJ Ib xx Full)
variable{S:Sit}{P:Program}{X:Tmp->Prop}
def iO(S:Sit)(P:Program)(X:Tmp->Prop):Code->Prop
 | .seq a b=>iO S P X a/\iO S P X b
 | .cond c a b=>(Eh S c/\∀t,c=.tmp t->X t)/\iO S P X a/\iO S P X b
 | .block _ b=>iO S P X b
 | .loop b=>iO S P X b
 | .region _ ops _=>∀o∈ops,Ie S P o.op/\(∀x∈o.op.operands,Eh S x/\∀t,x=.tmp t->X t)/\∀t,o.dst=some t->X t
 | .skip|.label _|.exit _|.ret=>True
 | _=>False
inductive rV(S:Sit)(P:Program)(X:Tmp->Prop):Item->Prop
 | code (c:Code) (h:iO S P X c):rV S P X (.code c)
 | inBlock (id:Nat):rV S P X (.inBlock id)
 | inLoop (c:Code) (h:iO S P X c):rV S P X (.inLoop c)
 | inRegion (ops:Array Oper) (l:List Nat) (h:∀o∈ops,Ie S P o.op/\(∀x∈o.op.operands,Eh S x/\∀t,x=.tmp t->X t)/\∀t,o.dst=some t->X t):rV S P X (.inRegion ops l)
section
variable{S':Sit}(hL:qN S S')
include hL
theorem iO.mono{c:Code}(h:iO S P X c):iO S' P X c:=by
 induction c with
 | seq a b iha ihb=>exact⟨iha h.1,ihb h.2⟩
 | cond c a b iha ihb=>exact⟨⟨h.1.1.mono hL,h.1.2⟩,iha h.2.1,ihb h.2.2⟩
 | block _ b ih=>exact ih h
 | loop b ih=>exact ih h
 | region _ ops _=>exactλo ho=>⟨(h o ho).1.mono hL,λx hx=>⟨((h o ho).2.1 x hx).1.mono hL,((h o ho).2.1 x hx).2⟩,(h o ho).2.2⟩
 | skip=>trivial
 | label _=>trivial
 | exit _=>trivial
 | ret=>trivial
 | _=>exact(h:False).elim
theorem rV.mono{x:Item}(h:rV S P X x):rV S' P X x:=by
 cases h with
 | code c h=>exact .code c (h.mono hL)
 | inBlock id=>exact .inBlock id
 | inLoop c h=>exact .inLoop c (h.mono hL)
 | inRegion ops l h=>exact .inRegion ops l λo ho=>⟨(h o ho).1.mono hL,λx hx=>⟨((h o ho).2.1 x hx).1.mono hL,((h o ho).2.1 x hx).2⟩,(h o ho).2.2⟩
end
def Kept(S:Sit)(X:Tmp->Prop)(l:List Frame)(fr':Frame):Prop:=(∀t,¬X t->fr'.tmps.getD t undef=S.K t)/\(l=[]->fr'.defers=S.Kd/\fr'.kind=S.Kk)
structure qH(S:Sit)(P:Program)(X:Tmp->Prop)(l:List Frame)(fr fr':Frame):Prop where
 fn:fr'.fn=fr.fn
 size:fr'.tmps.size=fr.tmps.size
 tmps:∀t,xx l X t->VR S (fr.tmps.getD t undef) (fr'.tmps.getD t undef)
 todo:fr'.todo=fr.todo
 items:∀x∈fr.todo,rV S P (xx l X) x
 mode:fr'.mode=fr.mode
 modes:fr.mode=.run\/fr.mode=.returning
 round:fr.roundOf=none
 round':fr'.roundOf=none
 early:fr.kind≠.early/\fr'.kind≠.early
 up:l≠[]->fr.kind=.normal/\fr'.kind=.normal/\fr.defers=[]/\fr'.defers=[]
 ld:fr.defers=[]
 kp:Kept S (xx l X) l fr'
theorem qH.mono{S':Sit}(hL:qN S S'){l:List Frame}{fr fr':Frame}(h:qH S P X l fr fr'):qH S' P X l fr fr':=
 ⟨h.fn,h.size,λt ht=>(h.tmps t ht).mono hL,h.todo,λx hx=>(h.items x hx).mono hL,h.mode,h.modes,h.round,h.round',h.early,h.up,h.ld,⟨λt ht=>(h.kp.1 t ht).trans (by rw[hL.k.1]),λe=>⟨(h.kp.2 e).1.trans hL.k.2.1.symm,(h.kp.2 e).2.trans hL.k.2.2.symm⟩⟩⟩
inductive t_(S:Sit)(P:Program)(X:Tmp->Prop):List Frame->List Frame->Prop
 | nil:t_ S P X [] []
 | cons (x y:Frame) (l k:List Frame) (h:qH S P X l x y) (hm:x.mode=.run) (hne:x.todo≠[]) (hl:t_ S P X l k):t_ S P X (x::l) (y::k)
theorem t_.mono{S':Sit}(hL:qN S S'){l k:List Frame}(h:t_ S P X l k):t_ S' P X l k:=by
 induction h with
 | nil=>exact .nil
 | cons x y l k h hm hne _ ih=>exact .cons x y l k (h.mono hL) hm hne ih
theorem t_.kk{l k:List Frame}(h:t_ S P X l k)(κ:List Item):Zn.kk k κ = Zn.kk l κ:=by
 cases h<;>rfl
theorem Kt:VR S undef undef:=VR.tuple' AR.nil
theorem qH.eval{l:List Frame}{fr fr':Frame}(h:qH S P X l fr fr'){x:Operand}(hx:Eh S x)(hu:∀t,x=.tmp t->xx l X t):VR S (fr.eval x) (fr'.eval x):=by
 cases x with
 | tmp t=>exact h.tmps t (hu t rfl)
 | const v=>exact hx
 | global g=>exact hx.elim
 | func f=>exact .func _ _ _ _ _ _ (.func f hx) rfl (λi h1=>by simp at h1) rfl (λi h1=>by simp at h1)
theorem b4H{l:List Frame}{fr fr':Frame}(h:qH S P X l fr fr'){ops:Array Oper}(ho:∀o∈ops,∀t,o.dst=some t->xx l X t):yielded ops fr'.tmps=yielded ops fr.tmps:=by
 funext j
 unfold yielded
 cases h1:ops[j]? with
 | none=>rfl
 | some o=>
  cases h2:o.dst with
  | none=>simp[h2]
  | some t=>
   have hv:=h.tmps t (ho o (Array.mem_of_getElem? h1) t h2);rw[aA,aA] at hv;simp only[eF,h2];by_cases hlt:t<fr.tmps.size
   ·have hlt':t<fr'.tmps.size:=by rw[h.size];exact hlt
    rw[bK hlt,bK hlt'] at hv⊢;simp only[aP] at hv;generalize fr.tmps[t]=a at hv;generalize fr'.tmps[t]=b at hv;cases hv<;>rfl
   ·have:=h.size;have h4:fr.tmps.size<=t:=Nat.le_of_not_lt hlt;have h5:fr'.tmps.size<=t:=by rw[this];exact h4
    rw[aW h5,aW h4]
theorem qH.finish{l:List Frame}{fr fr':Frame}(h:qH S P X l fr fr')(hm:fr.mode=.run){v v':Value}(hv:VR S v v'):qH S P X l (fr.finish v) (fr'.finish v'):=by
 obtain⟨fn,tmps,todo,defers,mode,kind,roundOf⟩:=fr;obtain⟨fn',gW,todo',defers',LC,kind',xU⟩:=fr';obtain⟨h1,h2,h3,h4,h5,h6,h7,h8,h9,h10,h11,h12,h13⟩:=h;dsimp only at h1 h2 h3 h4 h5 h6 h7 h8 h9 h10 h11 h12 h13;subst h4;unfold Frame.finish
 cases todo' with
 | nil=>exact⟨h1,h2,h3,rfl,h5,h6,h7,h8,h9,h10,h11,h12,h13⟩
 | cons x k=>
  have hk:∀y∈k,rV S P (xx l X) y:=λy hy=>h5 y (by simp[hy]);have hx:=h5 x (by simp)
  cases hx with
  | inRegion ops is ho=>
   cases is with
   | nil=>exact⟨h1,h2,h3,rfl,h5,h6,h7,h8,h9,h10,h11,h12,h13⟩
   | cons i rest=>
    dsimp only;refine⟨h1,?_,?_,rfl,?_,h6,h7,h8,h9,h10,h11,h12,⟨?_,h13.2⟩⟩
    ·dsimp only;split<;>simp[h2]
    ·dsimp only;split
     ·rename_i d hd;intro t ht;rw[aA,aA,dI,dI,h2];split
      ·split
       ·exact hv
       ·exact Kt
      ·exact aA (xs:=tmps)▸aA (xs:=gW)▸h3 t ht
     ·exact h3
    ·intro y hy;rcases aY.1 hy with rfl|hy
     ·exact .inRegion _ _ ho
     ·exact hk y hy
    ·dsimp only;split
     ·rename_i d hd;intro t ht;obtain⟨o,ho1,ho2⟩:=bI.1 hd;have hne:d≠t:=λe=>ht (e▸(ho o (Array.mem_of_getElem? ho1)).2.2 d ho2);rw[aA,aK hne,<-aA];exact h13.1 t ht
     ·exact h13.1
  | _=>exact⟨h1,h2,h3,rfl,h5,h6,h7,h8,h9,h10,h11,h12,h13⟩
structure jb(S S':Sit)(w w':World)(es:Array Event):Prop where
 size:w.heap.size<=w'.heap.size
 tape:w'.tape=w.tape
 os:w'.os=w.os
 output:w'.output=w.output
 old:∀b,b<w.heap.size->(∀a,S.D a->S.W a->S.ren a≠b)->w'.heap[b]?=w.heap[b]?
 new:∀b,S'.D b->S'.W b->S.W b/\S.D b\/w.heap.size<=S'.ren b
 ev:∀e∈es,jd S' w'.heap.size e
 dw:∀b,S'.D b->S.D b\/S'.W b
def wV(P:Program)(S:Sit)(X:Tmp->Prop)(w2:World)(s:List Item->List Frame->GStep)(fr':Frame)(l':List Frame)(w':World):Prop:=
 ∃S' Pj mT w2' es2,(∀κ cs,s κ cs=.go (Gr Pj mT κ cs) w2' es2)/\qN S S'/\qp S' P/\uy S' w'/\qH S' P X l' fr' Pj/\t_ S' P X l' mT/\WR S' w' w2'/\jb S S' w2 w2' es2
theorem Eu(fr:Frame)(l:List Frame):Gr fr l [] []={frame:=fr,callers:=l,status:=.running,dying:=none}:=by
 have e1:∀l:List Frame,kk l []=[]:=λl=>by cases l<;>rfl
 have e2:∀l:List Frame,low l [] []=l:=by
  intro l
  induction l with
  | nil=>rfl
  | cons x l ih=>unfold low;rw[e1,wM,ih]
 unfold Gr;rw[e1,wM,e2]
theorem b9U{fr jA:Frame}{l l2:List Frame}{w w2:World}{fr':Frame}{l':List Frame}{w':World}{es:Array Event}(hP:qp S P)(hc:uy S w)(hF:qH S P X l fr jA)(hLo:t_ S P X l l2)(hW:WR S w w2)
 (h1:P.globals.size<=w.heap.size)(h2:P.globals.size<=w2.heap.size)(ht:w2.tape=w.tape)(hd:w2.drawn=w.drawn)
 (hcode:∀f fn c,S.F f->P.funcs[f]?=some fn->fn.body=some c->iO S P Full c)
 (hm:fr.mode=.run){ops:Array Oper}{is:List Nat}{k:List Item}(htd:fr.todo=.inRegion ops is::k)(hm':∀c,fr'.mode≠.panicking c){s s2:Sem Next}(him:∀S',qN S S'->qp S' P->Im S' P (CJ S') s s2)
 (hh:(∃a u,s.run P w=.ok a u)\/∃x u,s.run P w=.halt x u/\Zn.dV x)
 (h0:stepG.apply P true fr l none s w=.go (Gr fr' l' [] []) w' es):
 wV P S X w2 (λκ cs=>stepG.apply P true (ext jA (kk l2 κ)) (low l2 κ cs) none s2 w2) fr' l' w':=by
 rw[Eu] at h0;have hk1:(fr.kind==CallKind.early)=false:=by have:=hF.early.1;cases hx:fr.kind<;>simp_all<;>rfl
 have hk2:∀κ,((ext jA κ).kind==CallKind.early)=false:=λκ=>by
  show(jA.kind==CallKind.early)=false;have:=hF.early.2;cases hx:jA.kind<;>simp_all<;>rfl
 have hrun:∀{r:Result Next},s.run P w=r->∃es0,s.runT P w #[]=(r,es0):=λ{r}e=>⟨(s.runT P w #[]).2,by
  have:=Sem.runT_fst P s w #[];rw[e] at this;exact Prod.ext this rfl⟩
 have hne2:jA.todo≠[]:=by rw[hF.todo,htd];simp
 rcases hh with⟨a,u,hr⟩|⟨x,u,hr,hok⟩
 ·obtain⟨es0,hr0⟩:=hrun hr;obtain⟨S',b,u2,es2,g1,g2,g3,g4,g5,g6,g7,g8,g9,g10,g11,g12,g13,g14,g15,g16,g17⟩:=both hP hc hW h1 h2 ht hd him hr;have hF':=hF.mono g2;have Gp:=hLo.mono g2;have Yy:∀es3:Array Event,(∀e∈es3,e∈es2)->jb S S' w2 u2 es3:=λes3 hes=>⟨g8,g9,g12,g13,g15,g16,λe he=>g14 e (hes e he),g17⟩;have hes:∀e∈seen P jA.fn es2++#[],e∈es2:=λe he=>by
   rw[gQ] at he;exact Go.Conc.mem_seen he
  unfold stepG.apply at h0;simp only[if_true,hk1,hr0,cu,if_false] at h0
  cases g5 with
  | value v v' hv=>
   injection h0 with e1 e2 e3;injection e1 with e4 e5;subst e4;subst e5;subst e2;refine⟨S',jA.finish v',l2,u2,seen P jA.fn es2++#[],λκ cs=>?_,g2,g3,g4,hF'.finish hm hv,Gp,g6,Yy _ hes⟩;unfold stepG.apply;simp only[if_true,hk2,g1,cu,if_false];rw[O3 hne2]
   rfl
  | skip=>
   injection h0 with e1 e2 e3;injection e1 with e4 e5;subst e4;subst e5;subst e2;refine⟨S',jA.finish undef,l2,u2,seen P jA.fn es2++#[],λκ cs=>?_,g2,g3,g4,hF'.finish hm Kt,Gp,g6,Yy _ hes⟩;unfold stepG.apply;simp only[if_true,hk2,g1,cu,if_false];rw[O3 hne2]
   rfl
  | enter f args args' hf ha=>
   obtain⟨fn,h3,h4,-⟩:=hP.body f (g2.F▸hf);have hcall:∀κ,(ext jA κ).todo=.inRegion ops is::(k++κ):=λκ=>by
    unfold ext;rw[hF.todo,htd];rfl
   dsimp only[GStep.after] at h0;rw[htd] at h0;dsimp only at h0;injection h0 with e1 e2 e3;injection e1 with e4 e5;subst e4;subst e5;subst e2;refine⟨S',Frame.enter P f args' .normal,jA::l2,u2,seen P jA.fn es2++#[],λκ cs=>?_,g2,g3,g4,?_,.cons fr jA l l2 hF' hm (by rw[htd];simp) Gp,g6,Yy _ hes⟩
   ·unfold stepG.apply;simp only[if_true,hk2,g1,cu,if_false];dsimp only[GStep.after];rw[hcall];dsimp only;unfold Gr;show _=GStep.go {frame:=ext (Frame.enter P f args' .normal) [],callers:=_,status:=_,dying:=_} _ _;rw[wM];rfl
   ·refine⟨rfl,?_,λt _=>?_,rfl,λx hx=>?_,rfl,.inl rfl,rfl,rfl,⟨by simp[Frame.enter],by simp[Frame.enter]⟩,λ_=>⟨rfl,rfl,rfl,rfl⟩,rfl,⟨λt ht=>absurd trivial ht,λe=>by cases e⟩⟩
    ·simp[Frame.enter,ha.size]
    ·simp only[Frame.enter];rw[<-ha.size];exact(ha.append (AR.replicate _ Kt)).getD _ Kt
    ·simp only[Frame.enter,fP] at hx;subst hx;refine .code _ ?_;rw[h3]
     cases hb:fn.body with
     | none=>rw[hb] at h4;cases h4
     | some c=>
      simp only[eF,hb,aP];exact(hcode f fn c (g2.F▸hf) h3 hb).mono g2
 ·obtain⟨es0,hr0⟩:=hrun hr;exfalso;unfold stepG.apply at h0;simp only[if_true,hk1,hr0,cu,if_false] at h0
  cases x with
  | panic v=>
   injection h0 with e1 e2 e3;injection e1 with e4 e5;obtain⟨c,hc',-⟩:=Zn.raise_mode fr [{v,recovered:=false}]
   exact hm' c (by rw[<-e4];exact hc')
  | stuck x=>cases h0
  | unsupported x=>cases x<;>first|exact(hok:False).elim|cases h0
  | _=>exact(hok:False).elim
end
section
open Zn (ext low kk Gr K0 Nx wM O3 wJ Ib KD xx Full Hy pF)
variable{S:Sit}{P:Program}{X:Tmp->Prop}
theorem XN{α:Type}{Q:Value->Value->Prop}(f f':α->Sem Value)(l:List α)(h:∀x∈l,Im S P Q (f x) (f' x)):Im S P (LR Q) (l.mapM f) (l.mapM f'):=by
 induction l with
 | nil=>exact Im.pure .nil
 | cons x l ih=>
  rw[lJ,lJ];refine Im.bind (h x (by simp)) ?_;intro a a' ha;refine Im.bind (ih λy hy=>h y (by simp[hy])) ?_;intro b b' hb;exact Im.pure (.cons ha hb)
theorem LR.array{l l':List Value}(h:LR (VR S) l l'):AR S l.toArray l'.toArray:=by
 induction h with
 | nil=>exact AR.nil
 | cons hx _ ih=>
  rename_i a b l k _;have e:∀(x:Value)(l:List Value),(x::l).toArray=#[x]++l.toArray:=λx l=>by simp
  rw[e a,e b];exact(AR.one hx).append ih
theorem b4I{fn:Func}{tmps gW:Array Value}(h:∀t,VR S (tmps.getD t undef) (gW.getD t undef)):Im S P (VR S) (results fn tmps) (results fn gW):=by
 unfold results;refine Im.bind (R:=AR S) ?_ ?_
 ·rw[gZ,gZ];show Im S P _ (Functor.map List.toArray _) (Functor.map List.toArray _);rw[jv,jv];refine Im.bind (XN (Q:=VR S) _ _ _ λr _=>?_) ?_
  ·cases r with
   | tmp t=>exact Im.pure (h t)
   | cell a t=>
    refine Im.bind (K9 (h a)) ?_;rintro a _ ⟨ha,rfl⟩;exact Rm _ ha
  ·intro l l' hl;exact Im.pure hl.array
 ·intro vs vs' hv;by_cases h1:vs.size=1
  ·have h2:vs'.size=1:=by rw[<-hv.size];exact h1
   rw[dif_pos h1,dif_pos h2];exact Im.pure (hv.at_ 0 (by omega) (by omega))
  ·have h2:¬vs'.size=1:=by rw[<-hv.size];exact h1
   rw[dif_neg h1,dif_neg h2];exact Im.pure (VR.tuple' hv)
section
variable{Z:Zn.Zone}{Sh:Nat->Prop}{Xu:Tmp->Prop}{fr jA:Frame}{l l2:List Frame}{w w2:World}{fr':Frame}{l':List Frame}{w':World}{es:Array Event}
theorem wV.congr{s s':List Item->List Frame->GStep}(h:∀κ cs,s κ cs=s' κ cs)(k:wV P S X w2 s' fr' l' w'):wV P S X w2 s fr' l' w':=by
 have:s=s':=by funext κ cs;exact h κ cs
 rw[this];exact k
theorem pz(hP:qp S P)(hc:uy S w)(hLo:t_ S P X l l2)(hW:WR S w w2){SK yO:Frame}(hF:qH S P X l SK yO)(h0:GStep.go {frame:=SK,callers:=l,status:=.running,dying:=none} w #[]=.go (Gr fr' l' [] []) w' es){s:List Item->List Frame->GStep}
 (h:∀κ cs,s κ cs=.go (Gr yO l2 κ cs) w2 #[]):wV P S X w2 s fr' l' w':=by
 rw[Eu] at h0;injection h0 with h1 h2 h3;injection h1 with h4 h5;subst h4;subst h5;subst h2;exact⟨S,yO,l2,w2,#[],h,.refl S,hP,hc,hF,hLo,hW,⟨aj _,rfl,rfl,rfl,λ_ _ _=>rfl,λb h k=>.inl ⟨k,h⟩,by simp,λb h=>.inl h⟩⟩
theorem Xs(Gj:∀Z',Zn.Le Z Z'->Zn.qo Z' P)(hI:Zn.Inv Z Sh Xu fr l w)(hP:qp S P)(hc:uy S w)(hF:qH S P X l fr jA)(hLo:t_ S P X l l2)(hW:WR S w w2)
 (h1:P.globals.size<=w.heap.size)(h2:P.globals.size<=w2.heap.size)(ht:w2.tape=w.tape)(hd:w2.drawn=w.drawn)
 (hcode:∀f fn c,S.F f->P.funcs[f]?=some fn->fn.body=some c->iO S P Full c)(hm:fr.mode=.run)(hm':∀c,fr'.mode≠.panicking c)
 (hx:∀κ cs,stepG.exec P true true (ext fr (kk l κ)) (low l κ cs) none w=.go (Gr fr' l' κ cs) w' es):
 wV P S X w2 (λκ cs=>stepG.exec P false true (ext jA (kk l2 κ)) (low l2 κ cs) none w2) fr' l' w':=by
 have wY:=hF;have h0:=hx [] [];have hg:=Eu fr l;unfold Gr at hg;injection hg with hg1 hg2;rw[hg1,hg2] at h0;obtain⟨fn,tmps,todo,defers,mode,kind,roundOf⟩:=fr;obtain⟨fn',gW,todo',defers',LC,kind',xU⟩:=jA;obtain⟨f1,f2,f3,f4,f5,f6,f7,f8,f9,f10,f11,f12,f13⟩:=hF;dsimp only at f1 f2 f3 f4 f5 f6 f7 f8 f9 f10 f11 f12 hm;subst f1;subst f4;subst f8;subst f9;subst hm;subst f6;have e1:=λκ:List Item=>hLo.kk κ;have leave:∀{td:List Item},(∀x∈td,rV S P (xx l X) x)->
  GStep.go {frame:={fn:=fn',tmps:=tmps,todo:=td,defers:=defers,mode:=.returning,kind:=kind},callers:=l,status:=.running,dying:=none} w #[]=.go (Gr fr' l' [] []) w' es->
  ∀{s:List Item->List Frame->GStep},(∀κ cs,s κ cs=.go (Gr {fn:=fn',tmps:=gW,todo:=td,defers:=defers',mode:=.returning,kind:=kind'} l2 κ cs) w2 #[])->wV P S X w2 s fr' l' w':=λ{td}hk h0{s}h=>
  pz (SK:={fn:=fn',tmps:=tmps,todo:=td,defers:=defers,mode:=.returning,kind:=kind}) (yO:={fn:=fn',tmps:=gW,todo:=td,defers:=defers',mode:=.returning,kind:=kind'}) hP hc hLo hW ⟨rfl,f2,f3,rfl,hk,rfl,.inr rfl,rfl,rfl,f10,f11,f12,f13⟩ h0 h
 have Og:∀κ,l≠[]->kk l2 κ = []:=λκ hne=>by
  rw[e1];cases l with
  | nil=>exact absurd rfl hne
  | cons=>rfl
 cases todo' with
 | nil=>
  by_cases hl:l=[]
  ·subst hl;have:=hx K0 [];cases this
  ·refine leave (td:=[]) (by simp) h0 λκ cs=>?_;rw[Og κ hl];unfold Gr;rw[Og κ hl]
   rfl
 | cons x k=>
  have hk:∀y∈k,rV S P (xx l X) y:=λy hy=>f5 y (by simp[hy]);have hx1:=f5 x (by simp);have xO:∀{td:List Item},(∀x∈td,rV S P (xx l X) x)->GStep.go {frame:={fn:=fn',tmps:=tmps,todo:=td,defers:=defers,mode:=.run,kind:=kind},callers:=l,status:=.running,dying:=none} w #[]=.go (Gr fr' l' [] []) w' es->
   ∀{s:List Item->List Frame->GStep},(∀κ cs,s κ cs=.go (Gr {fn:=fn',tmps:=gW,todo:=td,defers:=defers',mode:=.run,kind:=kind'} l2 κ cs) w2 #[])->wV P S X w2 s fr' l' w':=λ{td}hk h0{s}h=>
   pz (SK:={fn:=fn',tmps:=tmps,todo:=td,defers:=defers,mode:=.run,kind:=kind}) (yO:={fn:=fn',tmps:=gW,todo:=td,defers:=defers',mode:=.run,kind:=kind'}) hP hc hLo hW ⟨rfl,f2,f3,rfl,hk,rfl,.inl rfl,rfl,rfl,f10,f11,f12,f13⟩ h0 h
  have c1:∀{a:Item},rV S P (xx l X) a->∀y∈a::k,rV S P (xx l X) y:=λha y hy=>by
   rcases aY.1 hy with rfl|hy
   ·exact ha
   ·exact hk y hy
  have c2:∀{a b:Item},rV S P (xx l X) a->rV S P (xx l X) b->∀y∈a::b::k,rV S P (xx l X) y:=λha hb y hy=>by
   rcases aY.1 hy with rfl|hy
   ·exact ha
   ·exact c1 hb y hy
  cases hx1 with
  | inBlock id=>exact xO hk h0 λ_ _=>rfl
  | inLoop c h=>exact xO (c2 (.code c h) (.inLoop c h)) h0 λ_ _=>rfl
  | inRegion ops is ho=>
   cases is with
   | nil=>exact xO hk h0 λ_ _=>rfl
   | cons i rest=>
    have ey:yielded ops gW=yielded ops tmps:=b4H wY λo h=>(ho o h).2.2;by_cases hw:((ops[i]?).map (Region.wanted · (yielded ops tmps))).getD false=true
    ·have hw2:((ops[i]?).map (Region.wanted · (yielded ops gW))).getD false=true:=by rw[ey];exact hw
     cases hoi:ops[i]? with
     | none=>rw[hoi] at hw;cases hw
     | some o=>
      have hob:=ho o (Array.mem_of_getElem? hoi);have hzi:=hI.fr.1.todo (.inRegion ops (i::rest)) (by simp);have hop:Zn.ES (Zn.Zf Z Sh w.heap.size) o.op/\Zn.Rn (xx l Xu) o.op:=by
       cases hzi with
       | inRegion _ _ h hu=>exact⟨h o (Array.mem_of_getElem? hoi),hu o (Array.mem_of_getElem? hoi)⟩
      have hh:(∃a u,(execOp (Frame.eval ⟨fn',tmps,.inRegion ops (i::rest)::k,defers,.run,kind,none⟩) o).run P w=.ok a u)\/∃x u,(execOp (Frame.eval ⟨fn',tmps,.inRegion ops (i::rest)::k,defers,.run,kind,none⟩) o).run P w=.halt x u/\Zn.dV x:=by
       rcases Zn.both (λZ' hZ=>Zn.oP (Gj Z' (hI.W.le.trans hZ)) (hop.1.mono hZ).1 λx hx=>Zn.mP (hI.fr.1.mono hZ) x ((hop.1.mono hZ).2 x hx) λt e=>hop.2 x hx t e) hI.W with⟨a,u,es,k1,ha,hT,-⟩|⟨x,u,es,k1,ha,hT,hok,-⟩
       ·have e:=hT w.tape w.drawn λ_ _ _=>rfl;rw[Zn.gJ] at e;exact .inl ⟨a,_,by rw[<-Sem.runT_fst P _ w #[],e]⟩
       ·have e:=hT w.tape w.drawn λ_ _ _=>rfl;rw[Zn.gJ] at e;exact .inr ⟨x,_,by rw[<-Sem.runT_fst P _ w #[],e],hok⟩
      have hnd:∀c,o.op≠.defer c:=λc e=>by have:=hob.1;rw[e] at this;exact this
      have h0':stepG.apply P true ⟨fn',tmps,.inRegion ops (i::rest)::k,defers,.run,kind,none⟩ l none (execOp (Frame.eval ⟨fn',tmps,.inRegion ops (i::rest)::k,defers,.run,kind,none⟩) o) w=.go (Gr fr' l' [] []) w' es:=by
       rw[<-h0];unfold stepG.exec;dsimp only;rw[if_pos hw];unfold stepG.oper;simp only[show(Frame.oper? ⟨fn',tmps,.inRegion ops (i::rest)::k,defers,.run,kind,none⟩)=some o from hoi]
      refine wV.congr (λκ cs=>?_) (b9U hP hc wY hLo hW h1 h2 ht hd hcode rfl rfl hm' (s2:=execOp (Frame.eval ⟨fn',gW,.inRegion ops (i::rest)::k,defers',.run,kind',none⟩) o) (λS' hL hP'=>b7s hP' (hob.1.mono hL) (λx hx=>(wY.mono hL).eval ((hob.2.1 x hx).1.mono hL) (hob.2.1 x hx).2) (λv=>⟨rfl,rfl⟩) λf=>⟨rfl,rfl⟩) hh h0');have e3:=wJ ⟨fn',gW,.inRegion ops (i::rest)::k,defers',.run,kind',none⟩ (kk l2 κ);rw[<-e3];show stepG.exec P false true ⟨fn',gW,.inRegion ops (i::rest)::(k++kk l2 κ),defers',.run,kind',none⟩ (low l2 κ cs) none w2=_;unfold stepG.exec;dsimp only;rw[if_pos hw2];unfold stepG.oper;simp only[show(Frame.oper? ⟨fn',gW,.inRegion ops (i::rest)::(k++kk l2 κ),defers',.run,kind',none⟩)=some o from hoi];rfl
    ·have hw2:¬((ops[i]?).map (Region.wanted · (yielded ops gW))).getD false=true:=by rw[ey];exact hw
     have h0':GStep.go {frame:=Frame.finish ⟨fn',tmps,.inRegion ops (i::rest)::k,defers,.run,kind,none⟩ undef,callers:=l,status:=.running,dying:=none} w #[]=.go (Gr fr' l' [] []) w' es:=by
      rw[<-h0];unfold stepG.exec;dsimp only;rw[if_neg hw]
     refine pz hP hc hLo hW (wY.finish rfl Kt) h0' λκ cs=>?_;unfold Gr;rw[<-O3 (by simp)];show stepG.exec P false true ⟨fn',gW,.inRegion ops (i::rest)::(k++kk l2 κ),defers',.run,kind',none⟩ (low l2 κ cs) none w2=_;unfold stepG.exec;dsimp only;rw[if_neg hw2]
     rfl
  | code c h=>
   cases c with
   | skip=>exact xO hk h0 λ_ _=>rfl
   | label _=>exact xO hk h0 λ_ _=>rfl
   | seq a b=>exact xO (c2 (.code _ h.1) (.code _ h.2)) h0 λ_ _=>rfl
   | block id b=>exact xO (c2 (.code b h) (.inBlock id)) h0 λ_ _=>rfl
   | loop b=>exact xO (c2 (.code b h) (.inLoop b h)) h0 λ_ _=>rfl
   | cond c a b=>
    have hv:=wY.eval h.1.1 h.1.2;have e3:=λκ=>wJ ⟨fn',gW,.code (.cond c a b)::k,defers',.run,kind',none⟩ κ;unfold stepG.exec at h0;dsimp only at h0;generalize hv1:Frame.eval ⟨fn',tmps,.code (.cond c a b)::k,defers,.run,kind,none⟩ c=v at hv h0;generalize hv2:Frame.eval ⟨fn',gW,.code (.cond c a b)::k,defers',.run,kind',none⟩ c=v2 at hv
    cases hv with
    | bool t=>
     refine xO (td:=.code (if t then a else b)::k) (c1 (.code _ ?_)) h0 λκ cs=>?_
     ·split
      ·exact h.2.1
      ·exact h.2.2
     ·have e4:Frame.eval ⟨fn',gW,.code (.cond c a b)::(k++kk l2 κ),defers',.run,kind',none⟩ c=.bool t:=by rw[<-hv2];exact congrFun (e3 (kk l2 κ)) c
      show stepG.exec P false true ⟨fn',gW,.code (.cond c a b)::(k++kk l2 κ),defers',.run,kind',none⟩ (low l2 κ cs) none w2=_;unfold stepG.exec;dsimp only;rw[e4]
      rfl
    | _=>cases h0
   | exit id=>
    unfold stepG.exec at h0;dsimp only at h0
    cases e:exitTo id k with
    | none=>rw[e] at h0;cases h0
    | some k'=>
     rw[e] at h0;refine xO (td:=k') (λy hy=>hk y (KD e y hy)) h0 λκ cs=>?_;show stepG.exec P false true ⟨fn',gW,.code (.exit id)::(k++kk l2 κ),defers',.run,kind',none⟩ (low l2 κ cs) none w2=_;unfold stepG.exec;dsimp only;rw[Ib _ e]
     rfl
   | ret=>exact leave f5 h0 λκ cs=>rfl
   | region id ops draw=>
    cases draw with
    | false=>exact xO (c1 (.inRegion _ _ h)) h0 λ_ _=>rfl
    | true=>
     have hr:∀w:World,(choose (.order fn' id)).run P w=.ok (Question.cut (.order fn' id) (w.tape w.drawn (.order fn' id))) {w with drawn:=w.drawn+1}:=λw=>rfl;unfold stepG.exec at h0;dsimp only[Bool.not_true] at h0;rw[if_neg (by simp),hr,Eu] at h0;dsimp only at h0;injection h0 with g1 g2 g3;injection g1 with g4 g5;subst g4;subst g5;subst g2;refine⟨S,⟨fn',gW,.inRegion ops (Region.schedule (P.follows .mixedOrders) ops (Question.cut (.order fn' id) (w.tape w.drawn (.order fn' id))))::k,defers',.run,kind',none⟩,l2,{w2 with drawn:=w2.drawn+1},#[],λκ cs=>?_,.refl S,hP,hc,
      ⟨rfl,f2,f3,rfl,c1 (.inRegion _ _ h),rfl,.inl rfl,rfl,rfl,f10,f11,f12,f13⟩,hLo,hW.draw _ _,⟨aj _,rfl,rfl,rfl,λ_ _ _=>rfl,λb h k=>.inl ⟨k,h⟩,by simp,λb h=>.inl h⟩⟩
     show stepG.exec P false true ⟨fn',gW,.code (.region id ops true)::(k++kk l2 κ),defers',.run,kind',none⟩ (low l2 κ cs) none w2=_;unfold stepG.exec;dsimp only[Bool.not_true];rw[if_neg (by simp),hr,ht,hd]
     rfl
   | _=>exact(h:False).elim
theorem b7t(hI:Zn.Inv Z Sh Xu fr l w)(Gj:∀Z',Zn.Le Z Z'->Zn.qo Z' P)(hP:qp S P)(hc:uy S w)(hF:qH S P X l fr jA)(hLo:t_ S P X l l2)(hW:WR S w w2)
 (h1:P.globals.size<=w.heap.size)(h2:P.globals.size<=w2.heap.size)(ht:w2.tape=w.tape)(hd:w2.drawn=w.drawn)(hm:fr.mode=.returning)
 (hx:∀κ cs,unwind P true (ext fr (kk l κ)) (low l κ cs) none w=.go (Gr fr' l' κ cs) w' es):
 wV P S X w2 (λκ cs=>unwind P false (ext jA (kk l2 κ)) (low l2 κ cs) none w2) fr' l' w':=by
 have em:∀k,(ext fr k).mode=.returning:=λ_=>hm;have qb:∀k,(ext jA k).mode=.returning:=λ_=>hF.mode.trans hm;have ed:∀k,(ext fr k).defers=[]:=λ_=>hF.ld;have DK:∀(main:Bool){f c:Frame}{l:List Frame}(hk:f.kind=.normal)(hc:c.todo≠[])(v:Value)(es:Array Event)(κ:List Item)(cs:List Frame)(w:World),
  GStep.after es (doReturn P main f (low (c::l) κ cs) none v w)=.go (Gr (c.finish v) l κ cs) w (es++#[]):=λmain f c l hk hc v es κ cs w=>by
  unfold doReturn;rw[hk];show GStep.after es (GStep.go {frame:=(ext c (kk l κ)).finish v,callers:=low l κ cs,status:=.running,dying:=none} w)=_;rw[O3 hc];rfl
 have xX:∀(main:Bool){f c:Frame}{l:List Frame}(hk:f.kind=.normal)(hc:c.todo≠[])(v:Value)(κ:List Item)(cs:List Frame)(w:World),
  doReturn P main f (low (c::l) κ cs) none v w=.go (Gr (c.finish v) l κ cs) w #[]:=λmain f c l hk hc v κ cs w=>by
  unfold doReturn;rw[hk];show GStep.go {frame:=(ext c (kk l κ)).finish v,callers:=low l κ cs,status:=.running,dying:=none} w=_;rw[O3 hc];rfl
 cases hLo with
 | nil=>
  exfalso;have hlen:∀(l:List Frame)κ(cs:List Frame),(low l κ cs).length=l.length+cs.length:=λl κ cs=>by
   induction l with
   | nil=>simp[low]
   | cons x l ih=>simp only[low,bV,ih];omega
  have h0:=hx [] [Zn.c0];have hret:∀(v:Value)(u:World)(es0:Array Event),GStep.after es0 (doReturn P true (ext fr (kk [] [])) (low [] [] [Zn.c0]) none v u)≠.go (Gr fr' l' [] [Zn.c0]) w' es:=λv u es0 e=>by
   unfold doReturn low at e;have key:∀(f:Frame),GStep.after es0 (GStep.go {frame:=f,callers:=[],status:=.running,dying:=none} u)≠.go (Gr fr' l' [] [Zn.c0]) w' es:=λf e=>by
    injection e with e1 e2 e3;have:=congrArg (λg:Goroutine=>g.callers.length) e1;simp only[Gr,hlen,bV,fB] at this;omega
   cases hk:(ext fr (kk [] [])).kind<;>(rw[hk] at e;exact key _ e)
  have Nq:∀(v:Value)(u:World),doReturn P true (ext fr (kk [] [])) (low [] [] [Zn.c0]) none v u≠.go (Gr fr' l' [] [Zn.c0]) w' es:=λv u e=>by
   unfold doReturn low at e;have key:∀(f:Frame),GStep.go {frame:=f,callers:=[],status:=.running,dying:=none} u≠.go (Gr fr' l' [] [Zn.c0]) w' es:=λf e=>by
    injection e with e1 e2 e3;have:=congrArg (λg:Goroutine=>g.callers.length) e1;simp only[Gr,hlen,bV,fB] at this;omega
   cases hk:(ext fr (kk [] [])).kind<;>(rw[hk] at e;exact key _ e)
  unfold unwind at h0;rw[ed,em] at h0;dsimp only at h0
  cases hfn:P.funcs[(ext fr (kk [] [])).fn]? with
  | none=>rw[hfn] at h0;exact Nq _ _ h0
  | some fn=>
   rw[hfn] at h0;dsimp only at h0
   cases hr:(results fn (ext fr (kk [] [])).tmps).runT P w #[] with
   | mk r es0=>
   rw[hr] at h0
   cases r with
   | ok v u=>exact hret _ _ _ h0
   | halt x u=>cases x<;>cases h0
 | cons c c2 l0 k0 hcR hcm hcn hl0=>
  obtain⟨u1,u2,u3,u4⟩:=hF.up (by simp);have qd:∀k,(ext jA k).defers=[]:=λ_=>u4;have m7:∀t,VR S (fr.tmps.getD t undef) (jA.tmps.getD t undef):=λt=>hF.tmps t trivial;have Oc:c2.todo≠[]:=by rw[hcR.todo];exact hcn
  cases hfn:P.funcs[fr.fn]? with
  | none=>
   have h0:=hx [] [];unfold unwind at h0;rw[ed,em] at h0;dsimp only at h0;rw[show(ext fr (kk (c::l0) [])).fn=fr.fn from rfl,hfn] at h0;dsimp only at h0;rw[xX true (f:=ext fr (kk (c::l0) [])) u1 hcn] at h0;injection h0 with g1 g2 g3;rw[Eu,Eu] at g1;injection g1 with g4 g5;subst g4;subst g5;subst g2;refine⟨S,c2.finish (jA.tmps.getD 0 undef),k0,w2,#[],λκ cs=>?_,.refl S,hP,hc,hcR.finish hcm (m7 0),hl0,hW,⟨aj _,rfl,rfl,rfl,λ_ _ _=>rfl,λb h k=>.inl ⟨k,h⟩,by simp,λb h=>.inl h⟩⟩;show unwind P false (ext jA (kk (c2::k0) κ)) (low (c2::k0) κ cs) none w2=_;unfold unwind;rw[qd,qb];dsimp only;rw[show(ext jA (kk (c2::k0) κ)).fn=jA.fn from rfl,hF.fn,hfn];dsimp only;rw[xX false (f:=ext jA (kk (c2::k0) κ)) u2 Oc]
   rfl
  | some fn=>
   have h0:=hx [] [];unfold unwind at h0;rw[ed,em] at h0;dsimp only at h0;rw[show(ext fr (kk (c::l0) [])).fn=fr.fn from rfl,hfn] at h0;dsimp only at h0;rw[show(ext fr (kk (c::l0) [])).tmps=fr.tmps from rfl] at h0
   cases hr:(results fn fr.tmps).runT P w #[] with
   | mk r es0=>
   rw[hr] at h0;have hr1:(results fn fr.tmps).run P w=r:=by rw[<-Sem.runT_fst P _ w #[],hr]
   cases r with
   | halt x u=>cases x<;>cases h0
   | ok v u=>
    dsimp only at h0;rw[DK true (f:=ext fr (kk (c::l0) [])) u1 hcn] at h0;injection h0 with g1 g2 g3;rw[Eu,Eu] at g1;injection g1 with g4 g5;subst g4;subst g5;subst g2;obtain⟨S',b,ll,es2,g1,g2,g3,g4,g5,g6,g7,g8,g9,g10,g11,g12,g13,g14,g15,g16,g17⟩:=both hP hc hW h1 h2 ht hd (R:=λS=>VR S) (λS' hL hP'=>b4I (fn:=fn) (gW:=jA.tmps) λt=>(m7 t).mono hL) hr1;refine⟨S',c2.finish b,k0,ll,seen P jA.fn es2++#[],λκ cs=>?_,g2,g3,g4,(hcR.mono g2).finish hcm g5,hl0.mono g2,g6,⟨g8,g9,g12,g13,g15,g16,λe he=>g14 e (by rw[gQ] at he;exact Go.Conc.mem_seen he),g17⟩⟩;show unwind P false (ext jA (kk (c2::k0) κ)) (low (c2::k0) κ cs) none w2=_;unfold unwind;rw[qd,qb];dsimp only;rw[show(ext jA (kk (c2::k0) κ)).fn=jA.fn from rfl,hF.fn,hfn];dsimp only;rw[show(ext jA (kk (c2::k0) κ)).tmps=jA.tmps from rfl,g1];dsimp only;rw[DK false (f:=ext jA (kk (c2::k0) κ)) u2 Oc]
theorem WN(Gj:∀Z',Zn.Le Z Z'->Zn.qo Z' P)(hI:Zn.Inv Z Sh Xu fr l w)(hP:qp S P)(hc:uy S w)(hF:qH S P X l fr jA)(hLo:t_ S P X l l2)(hW:WR S w w2)
 (h1:P.globals.size<=w.heap.size)(h2:P.globals.size<=w2.heap.size)(ht:w2.tape=w.tape)(hd:w2.drawn=w.drawn)
 (hcode:∀f fn c,S.F f->P.funcs[f]?=some fn->fn.body=some c->iO S P Full c)(hm':∀c,fr'.mode≠.panicking c)(hx:Nx P fr l w fr' l' w' es):
 wV P S X w2 (λκ cs=>stepG P false (Gr jA l2 κ cs) w2) fr' l' w':=by
 rcases hF.modes with hm|hm
 ·refine wV.congr (λκ cs=>?_) (Xs (es:=es) Gj hI hP hc hF hLo hW h1 h2 ht hd hcode hm hm' λκ cs=>?_)
  ·unfold stepG Gr;dsimp only;rw[show(ext jA (kk l2 κ)).mode=.run from hF.mode.trans hm]
  ·rw[<-hx κ cs];unfold stepG Gr;dsimp only;rw[show(ext fr (kk l κ)).mode=.run from hm]
 ·refine wV.congr (λκ cs=>?_) (b7t (es:=es) hI Gj hP hc hF hLo hW h1 h2 ht hd hm λκ cs=>?_)
  ·unfold stepG Gr;dsimp only;rw[show(ext jA (kk l2 κ)).mode=.returning from hF.mode.trans hm]
  ·rw[<-hx κ cs];unfold stepG Gr;dsimp only;rw[show(ext fr (kk l κ)).mode=.returning from hm]
end
end
section
open Zn (ext low kk Gr K0 Nx Full)
open Mc (Wk Tr)
variable{S:Sit}{P:Program}{X:Tmp->Prop}
structure Rl(Ro:Nat->Prop)(O:Nat->Prop)(w w':World):Prop where
 size:w.heap.size<=w'.heap.size
 ro:∀b,Ro b->w'.heap[b]?=w.heap[b]?
 own:∀b,O b->w'.heap[b]?=w.heap[b]?
def EvB(Ro O:Nat->Prop)(B:Nat)(e:Event):Prop:=
 match e.loc with
 | .cell a=>e.sync=false/\(O a.block\/(Ro a.block/\e.write=false))/\a.block<B
 | .obj r=>e.sync=false/\(O r\/Ro r)/\e.write=false/\r<B
 | .mark m=>fU m
 | _=>False
structure Gd(Ro:Nat->Prop)(O O':Nat->Prop)(w w':World)(es:Array Event):Prop where
 size:w.heap.size<=w'.heap.size
 tape:w'.tape=w.tape
 os:w'.os=w.os
 output:w'.output=w.output
 old:∀b,b<w.heap.size->¬O b->w'.heap[b]?=w.heap[b]?
 more:∀b,O b->O' b
 new:∀b,O' b->O b\/w.heap.size<=b
 MR:∀b,O' b->b<w'.heap.size
 ev:∀e∈es,EvB Ro O' w'.heap.size e
def dq(S:Sit)(O:Nat->Prop):Prop:=∀b,O b<->∃a,S.D a/\S.W a/\S.ren a=b
def End(P:Program)(X:Tmp->Prop)(A:Frame->World->Prop)(Ro:Nat->Prop)(κ:List Item)(cs:List Frame)(S0:Sit)(O:Nat->Prop)(g:Goroutine)(w2:World):Prop:=
 ∃S fr jA w,qN S0 S/\(∀b,S.D b->S0.D b\/S.W b)/\g=Gr jA [] κ cs/\qH S P X [] fr jA/\WR S w w2/\uy S w/\dq S O/\(∀a,S.D a->Ro (S.ren a)\/O (S.ren a))/\A (ext fr K0) w
theorem WR.rely{Ro O:Nat->Prop}{w w2 w3:World}(h:WR S w w2)(hc:uy S w)(hro:∀a,S.D a->Ro (S.ren a)\/O (S.ren a))(hr:Rl Ro O w2 w3):WR S w w3:=by
 refine⟨h.inj,λb hb hD=>?_,λb hb hlt=>?_,h.ro⟩
 ·have:=hc b hD;omega
 ·obtain⟨o,o',h1,h2,h3⟩:=h.obj b hb hlt;refine⟨o,o',h1,?_,h3⟩;rcases hro b hb with hx|hx
  ·rw[hr.ro _ hx];exact h2
  ·rw[hr.own _ hx];exact h2
theorem WR.tp{w w2:World}(h:WR S w w2)(τ:Nat->Question->Nat)(p:Nat):WR S (Zn.tp w τ p) w2:=⟨h.inj,h.fresh,h.obj,h.ro⟩
theorem Pi{Z:Zn.Zone}{Sh:Nat->Prop}{Xu:Tmp->Prop}{A:Frame->World->Prop}(Ro:Nat->Prop)(S0:Sit)(Gj:∀Z',Zn.Le Z Z'->Zn.qo Z' P)(hA:∀F w τ p,A F w->A F (Zn.tp w τ p))(κ:List Item)(cs:List Frame)
 {fr:Frame}{l:List Frame}{w:World}(hG:Zn.su P Z Sh Xu A fr l w):
 ∀(S:Sit)(jA:Frame)(l2:List Frame)(w2:World)(O:Nat->Prop),qN S0 S->(∀b,S.D b->S0.D b\/S.W b)->(∀f fn c,S.F f->P.funcs[f]?=some fn->fn.body=some c->iO S P Full c)->qp S P->uy S w->qH S P X l fr jA->t_ S P X l l2->WR S w w2->dq S O->(∀a,S.D a->Ro (S.ren a)\/O (S.ren a))->
  P.globals.size<=w.heap.size->P.globals.size<=w2.heap.size->∃T,Wk P false (Rl Ro) (Gd Ro) (End P X A Ro κ cs S0) T O (Gr jA l2 κ cs) w2:=by
 induction hG with
 | stop fr w hI τ p Yw=>
  intro S jA l2 w2 O hle hdw _ hP hc hF hLo hW pW hro _ _;cases hLo;refine⟨.leaf,Wk.stop λw3 hr=>⟨S,fr,jA,w,hle,hdw,rfl,hF,hW.rely hc hro hr,hc,pW,hro,?_⟩⟩;have:=hA _ _ w.tape w.drawn Yw;rw[Zn.nO,Zn.gJ] at this
  exact this
 | step fr l w hI F L W E h hs he k ih=>
  intro S jA l2 w2 O hle hdw hcode hP hc hF hLo hW pW hro g1 g2;refine Wk.step rfl λw3 hr=>?_;have hW3:=hW.rely hc hro hr;have se:=(k w3.tape w3.drawn).inv;have hm':∀c,(F w3.tape w3.drawn).mode≠.panicking c:=λc e=>by
   rcases se.fr.1.mode with h|h<;>(rw[h] at e;cases e)
  obtain⟨S',ti,l3,w4,es,e1,e2,e3,e4,e5,e6,e7,e8⟩:=WN (P:=P) (S:=S) (X:=X) Gj (Zn.Inv.tp hI w3.tape w3.drawn) hP (w2:=w3) hc hF hLo (hW3.tp _ _) g1 (ay g2 hr.size) rfl rfl hcode hm' (h w3.tape w3.drawn)
  let O':Nat->Prop:=λb=>∃a,S'.D a/\S'.W a/\S'.ren a=b
  have oy:∀b,O b->O' b:=λb hb=>by
   obtain⟨a,h1,h2,h3⟩:=(pW b).1 hb;exact⟨a,e2.D a h1,e2.W a h2,(e2.ren a h1).trans h3⟩
  have FC:∀a,S'.D a->Ro (S'.ren a)\/O' (S'.ren a):=λa ha=>by
   rcases e8.dw a ha with h1|h1
   ·rw[e2.ren a h1];exact(hro a h1).imp id (oy _)
   ·exact .inr ⟨a,ha,h1,rfl⟩
  obtain⟨T,hT⟩:=ih w3.tape w3.drawn S' ti l3 w4 O' (hle.trans e2) (λb hb=>(e8.dw b hb).elim (λh=>(hdw b h).imp id (e2.W b)) .inr) (λf fn c hf h1 h2=>(hcode f fn c (e2.F▸hf) h1 h2).mono e2) e3 e4 e5 e6 e7 (λb=>Iff.rfl) FC (ay g1 (hs _ _)) (ay (ay g2 hr.size) e8.size);refine⟨_,w4,es,O',T,e1 κ cs,⟨e8.size,e8.tape,e8.os,e8.output,λb hb hn=>e8.old b hb λa h1 h2 h3=>hn ((pW b).2 ⟨a,h1,h2,h3⟩),oy,λb hb=>?_,λb hb=>?_,λe he=>?_⟩,hT⟩
  ·obtain⟨a,h1,h2,rfl⟩:=hb;rcases e8.new a h1 h2 with⟨h3,h4⟩|h3
   ·exact .inl ((pW _).2 ⟨a,h4,h3,(e2.ren a h4).symm⟩)
   ·exact .inr h3
  ·obtain⟨a,h1,h2,rfl⟩:=hb;obtain⟨_,_,_,h3,_⟩:=e7.obj a h1 (e4 a h1);exact lt_of_some h3
  ·have:=e8.ev e he;obtain⟨loc,wr,sy⟩:=e
   cases loc with
   | cell a=>
    obtain⟨h1,⟨b,h2,h3,h4⟩,h5⟩:=this;refine⟨h1,?_,h5⟩
    cases wr with
    | true=>exact .inl ⟨b,h2,h4 rfl,h3⟩
    | false=>exact(h3▸FC b h2).symm.imp id λh=>⟨h,rfl⟩
   | obj r=>
    obtain⟨h1,⟨b,h2,h3⟩,h4,h5⟩:=this
    exact⟨h1,(h3▸FC b h2).symm,h4,h5⟩
   | mark m=>exact this
   | _=>exact(this:False).elim
end
end Go.Bi
namespace Go.Mw
section
open Go.Conc
open Mc
set_option linter.unusedSectionVars false
theorem Zg{γ:Type}{P:Program}{main:Bool}{R R':γ->World->World->Prop}{D D':γ->γ->World->World->Array Event->Prop}{Stop Stop':γ->Goroutine->World->Prop}(I:γ->World->Prop)
 (hI:∀x w w',I x w->R' x w w'->I x w')(hR:∀x w w',I x w->R' x w w'->R x w w')(hD:∀x x' w w' es,I x w->D x x' w w' es->D' x x' w w' es/\I x' w')(hS:∀x g w,I x w->Stop x g w->Stop' x g w):
 ∀{T:Tr}{x:γ}{g:Goroutine}{w:World},I x w->Wk P main R D Stop T x g w->Wk P main R' D' Stop' T x g w:=by
 intro T
 induction T with
 | leaf=>exactλhi h w₁ r=>hS _ _ _ (hI _ _ _ hi r) (h w₁ (hR _ _ _ hi r))
 | node f ih=>
  intro x g w hi h;rcases h with h|⟨hs,h⟩
  ·exact .inl λw₁ r=>hS _ _ _ (hI _ _ _ hi r) (h w₁ (hR _ _ _ hi r))
  ·refine .inr ⟨hs,λw₁ r=>?_⟩;obtain⟨g',w',es,x',h1,h2,h3⟩:=h w₁ (hR _ _ _ hi r);obtain⟨h4,h5⟩:=hD _ _ _ _ _ (hI _ _ _ hi r) h2;exact⟨g',w',es,x',h1,h4,ih _ h5 h3⟩
variable{Z:Pz}{i bx:Nat}{O:Nat->Prop}{Stop:(Nat->Prop)->Goroutine->World->Prop}{b:Frame}{a:Act}{k:List Item}{cs:List Frame}{w w₁ w':World}{g g':Goroutine}
abbrev Ww(Z:Pz)(i bx:Nat)(Stop:(Nat->Prop)->Goroutine->World->Prop):Tr->(Nat->Prop)->Goroutine->World->Prop:=Wk Z.P false (RW Z i bx) (DW Z i bx) Stop
def Nw(Z:Pz)(O:Nat->Prop)(w:World):Prop:=∀b,O b->Z.L0<=b/\b<w.heap.size
theorem Nw.rely(h:Nw Z O w)(r:RW Z i bx O w w₁):Nw Z O w₁:=λb hb=>⟨(h b hb).1,ak (h b hb).2 r.size⟩
theorem zJ(h:Nw Z O w){es:Array Event}(he:∀e∈es,EvW Z i bx O w.heap.size e):DW Z i bx O O w w es:=
 ⟨aj _,rfl,rfl,rfl,λ_ _ _ _ _=>rfl,id,id,λ_ _=>rfl,λ_ h=>h,λ_ h=>.inl h,λb hb=>(h b hb).2,he⟩
theorem NN(h:∃T,Ww Z i bx Stop T O g w)(r:RW Z i bx O w w₁):∃T,Ww Z i bx Stop T O g w₁:=let ⟨T,h⟩:=h;⟨T,Wk.rely (R:=RW Z i bx) (λ_ _ _ _ h1 h2=>RW.trans Z h1 h2) h r⟩
theorem CU(hN:Nw Z O w)(hrun:g.status=.running)(h:∀w,stepG Z.P false g w=.go g' w)(h':∃T,Ww Z i bx Stop T O g' w):∃T,Ww Z i bx Stop T O g w:=
 Wk.step hrun λw₁ r=>let ⟨T,hT⟩:=NN h' r;⟨g',w₁,#[],O,T,h w₁,zJ (hN.rely r) (by simp),hT⟩
def eZ(Z:Pz)(bx:Nat)(b:Nat):Prop:=Z.lN b\/b=bx
structure Kp(Z:Pz)(bx:Nat)(w0 w:World):Prop where
 size:w0.heap.size<=w.heap.size
 iP:∀b,Z.lN b->w.heap[b]?=w0.heap[b]?
 box:w.heap[bx]?=w0.heap[bx]?
 al:kY Z w0->kY Z w
 cb:kS Z w0->kS Z w
 live:ConcN.WgLive Z.ty Z.Wg w0->ConcN.WgLive Z.ty Z.Wg w
theorem b4f(hZ:jY Z){StopB:(Nat->Prop)->Goroutine->World->Prop}(hN:Nw Z O w)(hL:Z.L0<=w.heap.size)(hb:¬O bx/\bx<w.heap.size/\bx≠Z.Al/\bx≠Z.Cb)(h:∃T,Wk Z.P false (Bi.Rl (eZ Z bx)) (Bi.Gd (eZ Z bx)) StopB T O g w)
 (hk:∀O g w',StopB O g w'->Nw Z O w'->¬O bx->Kp Z bx w w'->∃T,Ww Z i bx Stop T O g w'):∃T,Ww Z i bx Stop T O g w:=by
 obtain⟨T,hT⟩:=h;have h1:Ww Z i bx (λO g w'=>StopB O g w'/\Nw Z O w'/\¬O bx/\Kp Z bx w w') T O g w:=by
  refine Zg (λO w'=>Nw Z O w'/\Z.L0<=w'.heap.size/\(¬O bx/\bx<w'.heap.size)/\Kp Z bx w w') ?_ ?_ ?_ ?_ ⟨hN,hL,⟨hb.1,hb.2.1⟩,aj _,λ_ _=>rfl,rfl,id,id,id⟩ hT
  ·exactλO w1 w' h r=>⟨h.1.rely r,ay h.2.1 r.size,⟨h.2.2.1.1,ak h.2.2.1.2 r.size⟩,ay h.2.2.2.size r.size,λb hb=>(r.iP b hb).trans (h.2.2.2.iP b hb),r.box.trans h.2.2.2.box,r.al∘h.2.2.2.al,r.cb∘h.2.2.2.cb,r.live∘h.2.2.2.live⟩
  ·exactλO w w' _ r=>⟨r.size,λb hb=>hb.elim (r.iP b) λe=>e▸r.box,r.own⟩
  ·intro O O' w1 w' es ⟨hN,hL,hO,hK⟩ d;have hnA:¬O Z.Al:=λh=>by have:=(hN _ h).1;have:=hZ.A0;omega
   have pg:¬O Z.Cb:=λh=>by have:=(hN _ h).1;have:=hZ.C0;omega
   have pf:¬O Z.Wg:=λh=>by have:=(hN _ h).1;have:=hZ.W0;omega
   have eA:=d.old Z.Al (ak hZ.A0 hL) hnA;have eC:=d.old Z.Cb (ak hZ.C0 hL) pg;have eW:=d.old Z.Wg (ak hZ.W0 hL) pf;have hN':Nw Z O' w':=λb hb=>⟨(d.new b hb).elim (λh=>(hN b h).1) λh=>ay hL h,d.MR b hb⟩;have pZ:kY Z w1->kY Z w':=λ⟨v,h⟩=>⟨v,eA.trans h⟩;have pS:kS Z w1->kS Z w':=λ⟨c,h,h'⟩=>⟨c,eC.trans h,h'⟩;refine⟨⟨d.size,d.tape,d.os,d.output,λb h1 h2 _ _=>d.old b h1 h2,pZ,pS,?_,d.more,d.new,d.MR,?_⟩,hN',ay hL d.size,⟨λh=>?_,ak hO.2 d.size⟩,ay hK.size d.size,λb hb=>?_,(d.old bx hO.2 hO.1).trans hK.box,pZ∘hK.al,pS∘hK.cb,λh=>?_⟩
   ·intro k _;simp only[World.cell?,eC]
   ·intro e he;have:=d.ev e he;obtain⟨loc,wr,sy⟩:=e
    cases loc with
    | cell a=>
     obtain⟨h1,h2,h3⟩:=this
     exact⟨h3,.inr ⟨h1,h2.elim .inl λh=>.inr (.inr h)⟩⟩
    | obj r=>
     obtain⟨h1,h2,h3,h4⟩:=this
     exact⟨h4,h1,h2.elim .inl λh=>.inr ⟨h,h3⟩⟩
    | mark m=>exact this
    | _=>exact(this:False).elim
   ·rcases d.new bx h with h|h
    ·exact hO.1 h
    ·have:=hO.2;omega
   ·have h1:=(hZ.iP b hb).1;exact(d.old b (ak h1 hL) λh=>by have:=(hN _ h).1;omega).trans (hK.iP b hb)
   ·obtain⟨st,sm,h2⟩:=hK.live h;exact⟨st,sm,eW.trans h2⟩
  ·exactλO g w1 h s=>⟨s,h.1,h.2.2.1.1,h.2.2.2⟩
 exact Wk.bind (R:=RW Z i bx) (RW.refl Z i bx) (λ_ _ _ _ h1 h2=>RW.trans Z h1 h2) h1 λO g w'⟨h,hn,hb,hk'⟩=>hk O g w' h hn hb hk'
end
section
open Go.Conc Go.RowKit Go.Conc.Lib Go.ConcR.Gen Go.ConcN.Gen
open Go.ConcR (KK wgBlock WgAt stA smA rd wr mk Payload DC0)
open Go.ConcN (WgLive Has AtR0 DWs)
variable[Payload]{L:WgLink}{P:Program}
def YS(P:Program)(g:Goroutine)(w:World):Prop:=∃g',stepG P false g w=.go g' w #[mk .disable]
def YH(P:Program)(ty:TypeId)(Wg C n Low k:Nat)(g:Goroutine)(w:World):Prop:=
 ∃g',stepG P false g w=.go g' w #[mk (.releaseMerge (stA Wg))]/\∃m,Goes P false (ConcN.RW ty Wg C n Low (k - 1)) DC0 (YS P) m g' w
theorem X4{ty:TypeId}{Wg C n Low i:Nat}(w:World):ConcN.RW ty Wg C n Low i w w:=⟨λ_ _ _ _=>rfl,id,id,rfl⟩
theorem av{ty:TypeId}{Wg C n Low i:Nat}(a b c:World)(h:ConcN.RW ty Wg C n Low i a b)(k:ConcN.RW ty Wg C n Low i b c):ConcN.RW ty Wg C n Low i a c:=
 ⟨λb h1 h2 h3=>(k.low b h1 h2 h3).trans (h.low b h1 h2 h3),k.live∘h.live,k.pay∘h.pay,k.cell.trans h.cell⟩
section
variable{ty:TypeId}{Wg C n Low k:Nat}{val:Value}{Own Rd:Nat->Loc->Prop}
theorem c2l:∀(m n1:Nat)(g:Goroutine)(w:World),Goes P false (ConcN.RW ty Wg C n Low (k - 1)) (DWs Wg Own Rd C n k) (AtR0 P ty Wg C n Low k val) n1 g w->Goes P false (ConcN.RW ty Wg C n Low (k - 1)) DC0 (YS P) m g w->False:=by
 have base:∀(n1:Nat)(g:Goroutine)(w:World),Goes P false (ConcN.RW ty Wg C n Low (k - 1)) (DWs Wg Own Rd C n k) (AtR0 P ty Wg C n Low k val) n1 g w->YS P g w->False:=by
  rintro n1 g w h ⟨g',e⟩;have stop:AtR0 P ty Wg C n Low k val g w->False:=by
   rintro⟨_,_,g'',e',_⟩;rw[e] at e';injection e' with _ _ e3;have:=congrArg (λx=>x[0]?) e3;simp[mk] at this
  cases n1 with
  | zero=>exact stop (h w (X4 w))
  | succ n1=>
   rcases h with h|⟨_,h⟩
   ·exact stop (h w (X4 w))
   ·have:=h w (X4 w);rw[e] at this;exact(this.1.2 (mk .disable) (by simp)).2.1 rfl
 intro m
 induction m with
 | zero=>exactλn1 g w h hk=>base n1 g w h (hk w (X4 w))
 | succ m ih=>
  intro n1 g w h hk;rcases hk with hk|⟨_,hk⟩
  ·exact base n1 g w h (hk w (X4 w))
  ·have k1:=hk w (X4 w);obtain⟨g',w',es,e,⟨e1,e2⟩,kn⟩:=goes_elim k1;subst e1;subst e2;have stop:AtR0 P ty Wg C n Low k val g w'->False:=by
    rintro⟨_,_,g'',e',_⟩;rw[e] at e';injection e' with _ _ e3;have:=congrArg (λx=>x.size) e3;simp at this
   cases n1 with
   | zero=>exact stop (h w' (X4 w'))
   | succ n1=>
    rcases h with h|⟨_,h⟩
    ·exact stop (h w' (X4 w'))
    ·have:=h w' (X4 w');rw[e] at this;exact ih n1 g' w' this.2 kn
theorem b8Z:∀(m n1:Nat)(g:Goroutine)(w:World),Goes P false (ConcN.RW ty Wg C n Low (k - 1)) DC0 (YH P ty Wg C n Low k) m g w->Goes P false (ConcN.RW ty Wg C n Low (k - 1)) (DWs Wg Own Rd C n k) (AtR0 P ty Wg C n Low k val) n1 g w->
 Goes P false (ConcN.RW ty Wg C n Low (k - 1)) DC0 (AtR0 P ty Wg C n Low k val) m g w:=by
 have base:∀(n1:Nat)(g:Goroutine)(w:World),Goes P false (ConcN.RW ty Wg C n Low (k - 1)) (DWs Wg Own Rd C n k) (AtR0 P ty Wg C n Low k val) n1 g w->YH P ty Wg C n Low k g w->AtR0 P ty Wg C n Low k val g w:=by
  rintro n1 g w h ⟨g',e,m,hm⟩
  cases n1 with
  | zero=>exact h w (X4 w)
  | succ n1=>
   rcases h with h|⟨_,h⟩
   ·exact h w (X4 w)
   ·have:=h w (X4 w);rw[e] at this;exact(c2l m n1 g' w this.2 hm).elim
 intro m
 induction m with
 | zero=>exactλn1 g w hk h w₁ r=>base n1 g w₁ (h.rely av r) (hk w₁ r)
 | succ m ih=>
  intro n1 g w hk h;rcases hk with hk|⟨hs,hk⟩
  ·exact .inl λw₁ r=>base n1 g w₁ (h.rely av r) (hk w₁ r)
  ·refine .inr ⟨hs,λw₁ r=>?_⟩;have k1:=hk w₁ r;obtain⟨g',w',es,e,⟨e1,e2⟩,kn⟩:=goes_elim k1;subst e1;subst e2;have h1:=h.rely av r;have stop:AtR0 P ty Wg C n Low k val g w'->False:=by
    rintro⟨_,_,g'',e',_⟩;rw[e] at e';injection e' with _ _ e3;have:=congrArg (λx=>x.size) e3;simp at this
   rw[e]
   cases n1 with
   | zero=>exact(stop (h1 w' (X4 w'))).elim
   | succ n1=>
    rcases h1 with h1|⟨_,h1⟩
    ·exact(stop (h1 w' (X4 w'))).elim
    ·have:=h1 w' (X4 w');rw[e] at this;exact⟨⟨rfl,rfl⟩,ih n1 g' w' kn this.2⟩
end
theorem c33(H:WgLib P L){Wg C n Low k:Nat}{val:Value}{c:Frame}{cs:List Frame}(w:World)(hK:WgLive L.tWg Wg w/\Has C (k - 1) val w):
 Goes P false (ConcN.RW L.tWg Wg C n Low (k - 1)) DC0 (YH P L.tWg Wg C n Low k) 60 (G ((baseD L.done).at ⟨#[.pointer (some ⟨Wg,0,none⟩),undef,undef,undef],[]⟩ [.code (body_done L)]) (c::cs)) w:=by
 lib_facts;simp only[body_done,body_add,doneFn,addFn,aP];u_reg kn_rely hK
 u_op kn_rely hK
 u_in kn_rely hK
 refine goes_call rfl rfl (by k_ne) rfl H.f_add (nm_add L) rfl ⟨by u_nil,?_⟩;walk_nrmf addFn
 iterate 12 (first|u_c stepG_seq kn_rely hK|u_reg kn_rely hK|u_c stepG_region_end kn_rely hK|u_cond true kn_rely hK|u_conv H.underlying_tWgP H.room_tWg (WgLive.cell0 hK.1).choose_spec kn_rely hK|u_op kn_rely hK)
 refine Goes.stop (λw₁ h₁=>?_);replace hK:=kn_rely hK h₁;clear h₁;refine⟨_,stepG_markAt .releaseMerge (by simp) rfl rfl (by k_ne) rfl H.f_relMerge (x_relMerge_n L) (x_relMerge_b L) (x_relMerge_x L) (x_relMerge_f L) (by simp[Act.eval,stA]),10,?_⟩;walk_nrm;iterate 3 (first|u_c stepG_seq kn_rely hK|u_c stepG_region_end kn_rely hK|u_reg kn_rely hK)
 exact Goes.stop (λw₁ h₁=>⟨_,stepG_mark0 .disable (by simp) rfl rfl (by k_ne) rfl H.f_disable (x_disable_n L) (x_disable_b L) (x_disable_x L) (x_disable_f L)⟩)
theorem b5Z(H:WgLib P L){Wg C n Low k:Nat}{val:Value}{c:Frame}{cs:List Frame}{qt:Nat}(hcm:c.mode=.returning)(hT:QuitsD P qt 0 (G c cs))(w:World)(hK:WgLive L.tWg Wg w/\Has C (k - 1) val w):
 Goes P false (ConcN.RW L.tWg Wg C n Low (k - 1)) DC0 (AtR0 P L.tWg Wg C n Low k val) 60 (G ((baseD L.done).at ⟨#[.pointer (some ⟨Wg,0,none⟩),undef,undef,undef],[]⟩ [.code (body_done L)]) (c::cs)) w:=
 b8Z 60 23 _ _ (c33 (val:=val) H w hK) (doneN (Own:=λ_ _=>False) (Rd:=λ_ _=>False) H hcm hT w hK)
end
end Go.Mw
