/- A part of what the last file proves. -/
import Derived.Test.YtgpbhjjajpbeeaaGreatDoorR10
import Derived.Conc.Listed
set_option linter.all false
namespace Go.Zn
section
variable{Z:Zone}{P:Program}
theorem b5d{α:Type}{Q:α->Prop}(x:String):Sf Z P Q (unsupported (.noEntry x):Sem α):=trivial
theorem c2r(ts:Array TypeId)(t:TypeId){args:Array Value}(h:AP Z args):Sf Z P (VP Z) (Builtin.copy_ ts t args):=by
 unfold Builtin.copy_;split
 case h_2=>exact l7 _
 rename_i sT d x e;have e:=Prod.mk.inj e;have e':=Prod.mk.inj e.2;have hd:VP Z d:=h.get e'.1;have hx:VP Z x:=h.get e'.2;refine Sf.bind (o6 _) fun d _=>?_;split
 case h_2=>exact l7 _
 cases hd with
 | snil l c=>exact Sf.bind (a5W _) fun _ _=>Sf.bind (J4 _) fun _ _=>Sf.bind (a0E _ _ hx) fun _ _=>Sf.pure (.int _ _)
 | slice a l c ha=>exact Sf.bind (a5W _) fun _ _=>Sf.bind (J4 _) fun _ _=>Sf.bind (a0E _ _ hx) fun cs hc=>Sf.bind (a1r ha _ _ hc.list) fun _ _=>Sf.pure (.int _ _)
 | _=>exact(trivial:HaltOK (.stuck _))
theorem c4b(ts:Array TypeId)(t:TypeId){args:Array Value}(h:AP Z args):Sf Z P (VP Z) (Builtin.len_ ts t args):=by
 unfold Builtin.len_;split
 case h_2=>exact l7 _
 rename_i sT x e;have e:=Prod.mk.inj e;have hx:VP Z x:=h.get e.2;refine Sf.bind (o6 _) fun d _=>?_;split
 ·exact Sf.pure (.int _ _)
 ·exact Sf.pure (.int _ _)
 ·refine Sf.bind (o6 _) fun d _=>?_;split
  ·exact Sf.pure (.int _ _)
  ·exact l7 _
 ·exact Sf.pure (.int _ _)
 ·exact Sf.pure (.int _ _)
 ·exact Sf.pure (.int _ _)
 ·refine Sf.bind (U2 hx.inMap) fun o ho=>?_;split
  ·exact Sf.pure (.int _ _)
  ·exact l7 _
 ·cases hx
 ·exact l7 _
theorem c4c(ts:Array TypeId)(t:TypeId){args:Array Value}(h:AP Z args):Sf Z P (VP Z) (Builtin.cap_ ts t args):=by
 unfold Builtin.cap_;split
 case h_2=>exact l7 _
 rename_i sT x e;have e:=Prod.mk.inj e;have hx:VP Z x:=h.get e.2;refine Sf.bind (o6 _) fun d _=>?_;split
 ·exact Sf.pure (.int _ _)
 ·refine Sf.bind (o6 _) fun d _=>?_;split
  ·exact Sf.pure (.int _ _)
  ·exact l7 _
 ·exact Sf.pure (.int _ _)
 ·exact Sf.pure (.int _ _)
 ·cases hx
 ·exact l7 _
theorem c2s(x y:Value):Sf Z P (VP Z) (Builtin.max2 x y):=by
 unfold Builtin.max2;split
 ·exact Sf.pure (.int _ _)
 ·split
  ·exact Sf.bind (L8 _) fun _ _=>Sf.pure (.float _ _)
  all_goals exact Sf.pure (.float _ _)
 ·exact Sf.bind (a4h _ _ _) fun v _=>Sf.bind (a4u _) fun b _=>Sf.pure (.string _)
 ·exact H7 _ trivial
 ·exact H7 _ trivial
 ·exact l7 _
theorem c2t(x y:Value):Sf Z P (VP Z) (Builtin.min2 x y):=by
 unfold Builtin.min2;split
 ·exact Sf.pure (.int _ _)
 ·split
  ·exact Sf.bind (L8 _) fun _ _=>Sf.pure (.float _ _)
  all_goals exact Sf.pure (.float _ _)
 ·exact Sf.bind (a4h _ _ _) fun v _=>Sf.bind (a4u _) fun b _=>Sf.pure (.string _)
 ·exact H7 _ trivial
 ·exact H7 _ trivial
 ·exact l7 _
theorem b0J{f:Value->Value->Sem Value}(hf:∀x y,Sf Z P (VP Z) (f x y)):∀(l:List Value)(x:Value),VP Z x->Sf Z P (VP Z) (l.foldlM f x):=by
 intro l
 induction l with
 | nil=>intro x hx;exact Sf.pure hx
 | cons y l ih=>intro x hx;rw[List.foldlM_cons];exact Sf.bind (hf _ _) fun z hz=>ih z hz
theorem c4d(ts:Array TypeId)(t:TypeId){args:Array Value}(h:AP Z args):Sf Z P (VP Z) (Builtin.max_ ts t args):=by
 unfold Builtin.max_;split
 ·exact l7 _
 ·rename_i x l e;exact b0J c2s _ _ (h.list x (by rw[e];simp))
theorem c4e(ts:Array TypeId)(t:TypeId){args:Array Value}(h:AP Z args):Sf Z P (VP Z) (Builtin.min_ ts t args):=by
 unfold Builtin.min_;split
 ·exact l7 _
 ·rename_i x l e;exact b0J c2t _ _ (h.list x (by rw[e];simp))
theorem a5d(ts:Array TypeId)(t:TypeId){args:Array Value}(h:AP Z args):Sf Z P (VP Z) (Builtin.unsafeSliceData_ ts t args):=by
 obtain⟨l⟩:=args;rcases l with _|⟨x,_|⟨y,l⟩⟩
 ·exact l7 _
 ·have hx:VP Z x:=h _ (by simp)
  cases hx with
  | snil=>exact Sf.pure .pnil
  | slice a n c ha=>
   unfold Builtin.unsafeSliceData_
   refine O3 _ (Sf.pure (.ptr _ ha)) (Sf.bind (a4v ha) fun o _=>O3 _ (Sf.pure (.ptr _ ha)) (Sf.bind (a0S _) fun e _=>Sf.bind (V8 (.view _ _ ha)) fun r hr=>Sf.pure (.ptr _ hr)))
  | _=>exact(trivial:HaltOK (.stuck _))
 ·cases x with
  | slice a n c=>cases a<;>exact(trivial:HaltOK (.stuck _))
  | _=>exact(trivial:HaltOK (.stuck _))
theorem a7I(hP:POK Z P)(ts:Array TypeId)(t:TypeId){args:Array Value}(h:AP Z args):Sf Z P (VP Z) (Builtin.unsafeString_ ts t args):=by
 obtain⟨l⟩:=args;rcases l with _|⟨x,_|⟨y,_|⟨z,l⟩⟩⟩
 ·exact l7 _
 ·cases x<;>exact(trivial:HaltOK (.stuck _))
 ·have hx:VP Z x:=h _ (by simp);have main:∀p,VP Z (.pointer p)->Sf Z P (VP Z) (Builtin.unsafeString_ ts t #[.pointer p,y]):=fun p hp=>by
   unfold Builtin.unsafeString_;refine Sf.bind (a1B _) fun n _=>?_;split
   case h_2=>exact l7 _
   refine O3 _ (Sf.bind (R:=fun _=>True) (o9 hP _) fun _ _=>?_) (O3 _ (a3t _ _ trivial) ?_)
   ·refine O3 _ (a3t _ _ trivial) ?_
    cases p with
    | none=>exact O3 _ (Sf.pure (.string _)) (o9 hP _)
    | some a=>
     refine O3 _ (Sf.pure (.string _)) (Sf.bind (a0S _) fun e _=>Sf.bind (a2j _ _ _) fun b _=>O3 _ (Sf.bind (a5R hp.inPtr _ _) fun s _=>Sf.bind (a4t _ _) fun _ _=>Sf.pure (.string _)) (H7 _ trivial))
   ·cases p with
    | none=>exact O3 _ (Sf.pure (.string _)) (o9 hP _)
    | some a=>
     refine O3 _ (Sf.pure (.string _)) (Sf.bind (a0S _) fun e _=>Sf.bind (a2j _ _ _) fun b _=>O3 _ (Sf.bind (a5R hp.inPtr _ _) fun s _=>Sf.bind (a4t _ _) fun _ _=>Sf.pure (.string _)) (H7 _ trivial))
  cases x with
  | pointer p=>exact main p hx
  | _=>exact(trivial:HaltOK (.stuck _))
 ·cases x<;>exact(trivial:HaltOK (.stuck _))
theorem a4B(ts:Array TypeId)(t:TypeId){args:Array Value}(h:AP Z args):Sf Z P (VP Z) (Builtin.unsafeStringData_ ts t args):=by
 obtain⟨l⟩:=args;rcases l with _|⟨x,_|⟨y,l⟩⟩
 ·exact l7 _
 ·cases x with
  | string s=>
   unfold Builtin.unsafeStringData_
   refine O3 _ (Sf.bind (L8 _) fun c _=>O3 _ (Sf.pure .pnil) (Sf.bind (a0S _) fun e _=>Sf.bind (Z7 _ AP.nil) fun a ha=>Sf.bind (a1h _) fun _ _=>Sf.pure (.ptr _ ha))) (Sf.bind (a0S _) fun e _=>Sf.bind (Z7 _ (a8W _)) fun a ha=>Sf.bind (a4t _ _) fun _ _=>Sf.pure (.ptr _ ha))
  | _=>exact(trivial:HaltOK (.stuck _))
 ·cases x<;>exact(trivial:HaltOK (.stuck _))
inductive TgP(Z:Zone):Target->Prop
 | fn (fn:Fn) (c:Array Value) (h:FnP Z fn) (hc:AP Z c):TgP Z (.fn fn c)
 | nil:TgP Z .nil
 | builtin (b:Builtin) (ts:Array TypeId) (t:TypeId) (cs:Array Bool) (h:bOK b=true):TgP Z (.builtin b ts t cs)
def DP(Z:Zone)(d:Deferred):Prop:=TgP Z d.target/\AP Z d.args
inductive a1E(Z:Zone):Next->Prop
 | value (v:Value) (h:VP Z v):a1E Z (.value v)
 | skip:a1E Z .skip
 | enter (f:FuncId) (args:Array Value) (h:Z.F f) (ha:AP Z args):a1E Z (.enter f args)
 | round (l:Nat) (f:FuncId) (tmps:Array Value) (assign body:Code) (h:Z.D l) (ht:AP Z tmps) (ha:CodeP Z assign) (hb:CodeP Z body):a1E Z (.round l f tmps assign body)
theorem a0v{s:Sem Value}(h:Sf Z P (VP Z) s):Sf Z P (a1E Z) (do pure (.value (<-s))):=Sf.bind h fun v hv=>Sf.pure (.value _ hv)
theorem c2u{s:Sem Unit}(h:Sf Z P (fun _=>True) s):Sf Z P (a1E Z) (do s;pure .skip):=Sf.bind h fun _ _=>Sf.pure .skip
structure PQK(Z:Zone)(P:Program):Prop extends POK Z P where
 num:∀f fn,Z.F f->P.funcs[f]?=some fn->(fn.name== "runtime.NumGoroutine")=false
 ext:∀f fn,Z.F f->P.funcs[f]?=some fn->fn.body=none->(∀e args,Extern.findNext fn=some e->AP Z args->Sf Z P (a1E Z) (e args))/\(∀e args,Extern.find fn=some e->AP Z args->Sf Z P (VP Z) (e args))
 code:∀f fn c,Z.F f->P.funcs[f]?=some fn->fn.body=some c->CodeP Z c
theorem b5e(hP:POK Z P)(b:Builtin)(hb:bOK b=true)(ts:Array TypeId)(t:TypeId)(cs:Array Bool){args:Array Value}(h:AP Z args):Sf Z P (a1E Z) (builtin b ts t cs args):=by
 unfold builtin
 cases b<;>first
  | exact a0v (b7S hP _ _ h)
  | exact a0v (c4c _ _ h)
  | exact a0v (c2r _ _ h)
  | exact a0v (b7R hP _ _ h)
  | exact a0v (c4b _ _ h)
  | exact a0v (c4d _ _ h)
  | exact a0v (c4e _ _ h)
  | exact a0v (b3r hP _)
  | exact a0v (a5d _ _ h)
  | exact a0v (a7I hP _ _ h)
  | exact a0v (a4B _ _ h)
  | cases hb
theorem a7q(hP:PQK Z P){f:FuncId}(hf:Z.F f){args:Array Value}(h:AP Z args):Sf Z P (a1E Z) (callFunc f args):=by
 unfold callFunc;refine Sf.bind D9 ?_;rintro p rfl
 cases hfn:p.funcs[f]? with
 | none=>exact l7 _
 | some fn=>
  dsimp only;rw[hP.num f fn hf hfn];rw[if_neg (by simp)]
  cases hb:fn.body with
  | some c=>
   rw[if_neg (by simp)]
   exact Sf.pure (.enter _ _ hf h)
  | none=>
   obtain⟨h1,h2⟩:=hP.ext f fn hf hfn hb;rw[if_pos (by simp)];refine Sf.bind (R:=fun _=>True) ⟨trivial,trivial⟩ fun _ _=>?_
   cases hn:Extern.findNext fn with
   | some e=>exact h1 e args hn h
   | none=>
    dsimp only
    cases hx:Extern.find fn with
    | some e=>exact Sf.bind (h2 e args hx h) fun v hv=>Sf.pure (.value _ hv)
    | none=>exact O3 _ (Sf.pure (.value _ (.tuple _ AP.nil))) (H7 _ trivial)
def PlP(Z:Zone):Place->Prop
 | .val v=>VP Z v
 | .var a=>Z.D a.block
theorem a8X(t:TypeId){x:Place}(h:PlP Z x):Sf Z P (VP Z) (x.get t):=by
 cases x with
 | val v=>exact Sf.pure h
 | var a=>exact a0u t h
theorem b7T(hP:POK Z P):∀(l:List FieldStep)(t:TypeId)(x:Place),PlP Z x->Sf Z P (fun r=>PlP Z r.2) (follow l t x):=by
 intro l
 induction l with
 | nil=>intro t x h;exact Sf.pure h
 | cons s l ih=>
  intro t x h;unfold follow;refine Sf.bind (o6 _) fun d _=>?_;split
  ·split
   ·split
    ·exact Sf.bind (a8X t h) fun v hv=>Sf.bind (a1X hP hv) fun a ha=>Sf.bind (a2G ha _) fun b hb=>ih _ _ hb
    ·split
     ·exact Sf.bind (a2G h _) fun b hb=>ih _ _ hb
     ·exact Sf.bind (a0n _ (VP.inAgg h) _) fun b hb=>ih _ _ hb
     ·exact l7 _
   ·exact l7 _
  ·exact l7 _
theorem c2w(hP:POK Z P)(t u:TypeId){v:Value}(hv:VP Z v)(a b:String):Sf Z P (VP Z) (Builtin.ssaWrapNilChk_ #[t] u #[v,strVal a,strVal b]):=by
 unfold Builtin.ssaWrapNilChk_
 cases hv with
 | ptr a ha=>exact Sf.pure (.ptr _ ha)
 | pnil=>
  refine Sf.bind (L8 (.extern "ssa:wrapnilchk.dereferenced" 2)) fun c _=>?_;dsimp only
  repeat' first
   | with_reducible refine Sf.bind (o6 _) fun _ _=>?_
   | with_reducible refine Sf.bind (I8 _) fun _ _=>?_
   | with_reducible refine Sf.bind (R:=fun _=>True) (o9 hP _) fun _ _=>?_
   | with_reducible exact o9 hP _
   | with_reducible exact l7 _
   | with_reducible exact b5d _
   | with_reducible refine O3 _ ?_ ?_
   | split
 | _=>exact(trivial:HaltOK (.stuck _))
theorem a9M(hP:POK Z P)(t:TypeId){x:Place}(h:PlP Z x)(pr:Bool)(w:Option String):Sf Z P (VP Z) (receiverAt t x pr w):=by
 unfold receiverAt;refine Sf.bind (o6 _) fun d _=>?_;split
 ·exact a8X _ h
 ·refine Sf.bind (a8X _ h) fun v hv=>?_;split
  ·exact Sf.bind (c2w hP _ _ hv _ _) fun v hv=>Sf.bind (a1X hP hv) fun a ha=>a0u _ ha
  ·exact Sf.bind (R:=VP Z) (Sf.pure hv) fun v hv=>Sf.bind (a1X hP hv) fun a ha=>a0u _ ha
 ·exact Sf.pure (.ptr _ h)
 ·exact l7 _
 ·exact a8X _ h
theorem b7U(hP:POK Z P){name:String}(hn:Z.N name):∀(n:Nat)(t:TypeId)(v:Value),Z.T t->VP Z v->Sf Z P (fun r=>Z.F r.1/\VP Z r.2) (method n t v name):=by
 intro n
 induction n with
 | zero=>intro t v _ _;exact H7 _ trivial
 | succ n ih=>
  intro t v ht hv;unfold method;refine Sf.bind (I8 _) fun i hi=>?_;split
  ·rename_i m hm;have hmem:=Array.mem_of_find?_eq_some hm;have hname:m.name=name:=by have:=Array.find?_some hm;simpa using this
   refine Sf.bind (b7T hP _ _ _ (show PlP Z (.val v) from hv)) fun r hr=>?_;obtain⟨xt,x⟩:=r;dsimp only;split
   ·refine Sf.bind (a8X _ hr) fun w hw=>?_;split
    ·exact ih _ _ hw.inIface.1 hw.inIface.2
    ·exact o9 hP _
    ·exact l7 _
   ·rename_i f pr hf;exact Sf.bind (a9M hP _ hr _ _) fun w hw=>Sf.pure ⟨hP.methods t i ht hi m hmem (hname▸hn) f pr hf,hw⟩
  ·exact l7 _
theorem a9N(hP:PQK Z P){recv:Value}(hr:VP Z recv){name:String}(hn:Z.N name){args:Array Value}(h:AP Z args):Sf Z P (a1E Z) (callMethod recv name args):=by
 unfold callMethod
 cases hr with
 | iface t v ht hv=>
  refine Sf.bind D9 fun p _=>Sf.bind (b7U hP.toPOK hn _ _ _ ht hv) fun r hr=>?_;obtain⟨f,w⟩:=r
  exact a7q hP hr.1 ((AP.one hr.2).append h)
 | nilIface=>exact o9 hP.toPOK _
 | _=>exact(trivial:HaltOK (.stuck _))
theorem b7V:∀(l:List (Tmp×Value)),(∀p∈l,VP Z p.2)->∀c:Array Value,AP Z c->AP Z (l.foldl (fun c(p:Tmp×Value)=>c.setIfInBounds p.1 p.2) c):=by
 intro l
 induction l with
 | nil=>intro _ c h;exact h
 | cons p l ih=>intro hl c h;exact ih (fun q hq=>hl q (by simp[hq])) _ (h.set _ (hl p (by simp)))
theorem c0Q{l:Nat}(hl:Z.D l){args:Array Value}(h:AP Z args):Sf Z P (a1E Z) (Instr.yield l args):=by
 unfold Instr.yield;refine Sf.bind (a2l hl) fun r hr=>?_;refine O3 _ (by trivial) (Sf.pure (.round _ _ _ _ _ hl ?_ hr.assign hr.body));rw[<-Array.foldl_toList,Array.toList_zip];refine b7V _ (fun p hp=>?_) _ hr.tmps;obtain⟨a,b⟩:=p;exact h.list b (List.of_mem_zip hp).2
theorem b0K(hP:PQK Z P){d:Deferred}(h:DP Z d):Sf Z P (a1E Z) (invoke d.target d.args):=by
 obtain⟨t,args⟩:=d;obtain⟨ht,ha⟩:=h;dsimp only at ht ha⊢;unfold invoke
 cases ht with
 | nil=>exact o9 hP.toPOK _
 | builtin b ts t cs hb=>exact b5e hP.toPOK b hb ts t cs ha
 | fn fn c hf hc=>
  cases hf with
  | func f hf=>exact a7q hP hf (ha.append hc)
  | method n hn=>
   dsimp only
   cases e:args[0]? with
   | none=>exact l7 _
   | some recv=>exact a9N hP (ha.get e) hn (ha.extract _ _)
  | yield l hl=>exact c0Q hl ha
theorem b5f{f:Value}(hf:VP Z f){args:Array Value}(h:AP Z args):Sf Z P (DP Z) (Deferred.ofValue f args):=by
 unfold Deferred.ofValue
 cases hf with
 | func fn a c hfn ha hc=>exact Sf.pure ⟨.fn _ _ hfn hc,AP.append ha h⟩
 | nilFunc=>exact Sf.pure ⟨.nil,h⟩
 | _=>exact(trivial:HaltOK (.stuck _))
theorem a8Y{ρ:Operand->Value}{c:Call}(hρ:∀x∈c.operands,VP Z (ρ x))(hc:a4s Z c.callee)(t:TypeId):Sf Z P (DP Z) (resolve ρ c t):=by
 unfold resolve;have hargs:AP Z (c.args.map ρ):=fun v hv=>by
  obtain⟨x,hx,rfl⟩:=Array.mem_map.1 hv;exact hρ x (by unfold Call.operands;simp[hx])
 dsimp only
 cases e:c.callee with
 | builtin b=>rw[e] at hc;exact Sf.pure ⟨.builtin _ _ _ _ hc,hargs⟩
 | invoke r n=>rw[e] at hc;exact Sf.pure ⟨.fn _ _ (.method n hc) AP.nil,(AP.one (hρ r (by unfold Call.operands;simp[e]))).append hargs⟩
 | value f=>exact b5f (hρ f (by unfold Call.operands;simp[e])) hargs
theorem a8Z:∀(l:List FieldStep)(t:TypeId)(x:Option Value),(∀v,x=some v->VP Z v)->Sf Z P (fun r=>∀t' v,r=.ok (t',some v)->VP Z v) (followBlind l t x):=by
 intro l
 induction l with
 | nil=>intro t x h;exact Sf.pure (by rintro _ _ ⟨⟩;exact h _ rfl)
 | cons s l ih=>
  intro t x h;unfold followBlind;refine Sf.bind (o6 _) fun d _=>?_;split
  ·split
   ·split
    ·exact Sf.pure (by simp)
    ·exact ih _ _ (by simp)
    ·exact l7 _
    ·exact Sf.pure (by simp)
    ·exact Sf.bind (a0n _ (VP.inAgg (h _ rfl)) _) fun b hb=>ih _ _ (by rintro _ ⟨⟩;exact hb)
    ·exact l7 _
    ·exact ih _ _ (by simp)
   ·exact l7 _
  ·exact l7 _
theorem b3v{name:String}:∀(n:Nat)(t:TypeId)(v:Value),VP Z v->Sf Z P (fun _=>True) (nilAhead n t v name):=by
 intro n
 induction n with
 | zero=>intro t v _;exact Sf.pure trivial
 | succ n ih=>
  intro t v hv;unfold nilAhead;refine Sf.bind (I8 _) fun i hi=>?_;split
  ·refine Sf.bind (a8Z _ _ _ (by rintro _ ⟨⟩;exact hv)) fun r hr=>?_;split
   ·exact Sf.pure trivial
   ·split
    ·exact ih _ _ (hr _ _ rfl).inIface.2
    ·exact Sf.pure trivial
    ·exact l7 _
    ·exact Sf.pure trivial
    ·exact Sf.pure trivial
    ·refine Sf.bind (o6 _) fun d _=>?_;split<;>exact Sf.pure trivial
  ·exact l7 _
end
section
variable{Z:Zone}{P:Program}
theorem sf_execOp(hP:PQK Z P){ρ:Operand->Value}{o:Oper}(hk:OpK Z o.op)(hρ:∀x∈o.op.operands,VP Z (ρ x)):Sf Z P (a1E Z) (execOp ρ o):=by
 obtain⟨dst,op,type,pos,after,guard⟩:=o;dsimp only at hk hρ;have hv:∀x,x∈op.operands->VP Z (ρ x):=hρ;unfold execOp
 cases op with
 | move x=>exact Sf.pure (.value _ (hv x (by simp[Op.operands])))
 | assign x=>exact Sf.pure (.value _ (hv x (by simp[Op.operands])))
 | pick c a b=>
  refine Sf.bind (a4u _) fun t _=>Sf.pure (.value _ ?_);split
  ·exact hv a (by simp[Op.operands])
  ·exact hv b (by simp[Op.operands])
 | alloc e=>exact a0v (c0E hP.toPOK _)
 | box e x=>exact a0v (c4a _ (hv x (by simp[Op.operands])))
 | build t ps=>
  refine a0v (c0G hP.toPOK _ fun p hp=>?_);obtain⟨q,hq,rfl⟩:=Array.mem_map.1 hp;obtain⟨i,x⟩:=q
  exact hv x (by simp[Op.operands];exact⟨i,hq⟩)
 | buildSlice t l ps=>
  refine a0v (a9F hP.toPOK _ _ fun p hp=>?_);obtain⟨q,hq,rfl⟩:=Array.mem_map.1 hp;obtain⟨i,x⟩:=q
  exact hv x (by simp[Op.operands];exact⟨i,hq⟩)
 | load t a=>exact a0v (b7N _ (hv a (by simp[Op.operands])))
 | store t a x=>exact c2u (b41 _ (hv a (by simp[Op.operands])) (hv x (by simp[Op.operands])))
 | ready g=>exact hk.elim
 | waits g=>exact hk.elim
 | nilCheck x=>
  have h:=hv x (by simp[Op.operands]);dsimp only;generalize ρ x=v at h
  cases h with
  | pnil=>exact o9 hP.toPOK _
  | nilIface=>exact o9 hP.toPOK _
  | nilFunc=>exact o9 hP.toPOK _
  | func fn f c hf ha hc=>
   cases hf with
   | method n hn=>
    dsimp only;split
    ·exact o9 hP.toPOK _
    ·rename_i e;refine Sf.bind D9 fun p _=>Sf.bind (b3v _ _ _ (VP.inIface (AP.get ha e)).2) fun r _=>?_;exact O3 _ (a3t _ _ trivial) (Sf.pure (.value _ (.func _ _ _ (.method n hn) ha hc)))
    ·exact Sf.pure (.value _ (.func _ _ _ (.method n hn) ha hc))
   | func g hg=>exact Sf.pure (.value _ (.func _ _ _ (.func g hg) ha hc))
   | yield l hl=>exact Sf.pure (.value _ (.func _ _ _ (.yield l hl) ha hc))
  | iface t w ht hw=>exact Sf.pure (.value _ (.iface _ _ ht hw))
  | ptr a ha=>exact Sf.pure (.value _ (.ptr _ ha))
  | _=>exact Sf.pure (.value _ (by constructor<;>assumption))
 | binOp op t x y u=>exact a0v (Sf.bind (b48 _ _ _ _ (hv x (by simp[Op.operands])) (hv y (by simp[Op.operands]))) fun _ _=>c0L hP.toPOK _ _ (hv x (by simp[Op.operands])) (hv y (by simp[Op.operands])))
 | unOp op t x=>exact a0v (c0K _ _)
 | convert s d x=>exact a0v (b5a _ _ (hv x (by simp[Op.operands])))
 | sliceToArrayPointer=>exact hk.elim
 | makeInterface t x=>exact a0v (a6G _ hk (hv x (by simp[Op.operands])))
 | makeFunc fn f c=>
  refine a0v (b3q hk (fun v h=>?_) (fun v h=>?_))
  ·obtain⟨x,hx,rfl⟩:=Array.mem_map.1 h;exact hv x (by simp[Op.operands,hx])
  ·obtain⟨x,hx,rfl⟩:=Array.mem_map.1 h;exact hv x (by simp[Op.operands,hx])
 | makeMap t r=>exact a0v (b45 _ _)
 | makeChan=>exact hk.elim
 | makeSlice t l c=>exact a0v (b1P hP.toPOK _ _ _)
 | slice t x l h m=>exact a0v (b44 hP.toPOK _ (hv x (by simp[Op.operands])) _ _ _)
 | fieldAddr s x f=>exact a0v (b42 _ (hv x (by simp[Op.operands])) _)
 | field t x f=>exact a0v (c0I _ (hv x (by simp[Op.operands])) _)
 | indexAddr t x i=>exact a0v (b43 hP.toPOK _ (hv x (by simp[Op.operands])) _)
 | index t x i=>exact a0v (c0J hP.toPOK _ (hv x (by simp[Op.operands])) _)
 | lookup t x i ok=>exact a0v (b7Q hP.toPOK _ (hv x (by simp[Op.operands])) (hv i (by simp[Op.operands])) _)
 | mapUpdate t m k x=>exact c2u (a5V hP.toPOK _ (hv m (by simp[Op.operands])) (hv k (by simp[Op.operands])) (hv x (by simp[Op.operands])))
 | insert t m k x=>exact c2u (a5V hP.toPOK _ (hv m (by simp[Op.operands])) (hv k (by simp[Op.operands])) (hv x (by simp[Op.operands])))
 | mapEntry=>exact hk.elim
 | entryStore=>exact hk.elim
 | range t x=>exact a0v (c0N _ (hv x (by simp[Op.operands])))
 | next x s=>exact a0v (c2p (hv x (by simp[Op.operands])) _ _)
 | entry x=>exact a0v (c0O (hv x (by simp[Op.operands])))
 | typeAssert x t u ok=>exact a0v (a9H hP.toPOK (hv x (by simp[Op.operands])) _ _ _)
 | extract x i=>exact a0v (b46 (hv x (by simp[Op.operands])) _)
 | call c=>exact Sf.bind (a8Y (fun x h=>hρ x (by simpa [Op.operands] using h)) hk _) fun d hd=>b0K hP hd
 | go=>exact hk.elim
 | defer=>exact hk.elim
 | panic x=>exact a0v (b3r hP.toPOK _)
 | send=>exact hk.elim
 | recv=>exact hk.elim
 | select=>exact hk.elim
end
section
variable{Z:Zone}{P:Program}
def OpU(X:Tmp->Prop)(o:Op):Prop:=∀x∈o.operands,∀t,x=.tmp t->X t
def CodeU(X:Tmp->Prop):Code->Prop
 | .seq a b=>CodeU X a/\CodeU X b
 | .cond _ a b=>CodeU X a/\CodeU X b
 | .block _ b=>CodeU X b
 | .loop b=>CodeU X b
 | .scope b=>CodeU X b
 | .region _ ops _=>∀o∈ops,OpU X o.op
 | .rangeFunc _ _ assign body=>(∀t,X t)/\CodeU X assign/\CodeU X body
 | _=>True
def Full:Tmp->Prop:=fun _=>True
theorem c0R(o:Op):OpU Full o:=fun _ _ _ _=>trivial
theorem codeU_full(c:Code):CodeU Full c:=by
 induction c with
 | seq a b iha ihb=>exact⟨iha,ihb⟩
 | cond _ a b iha ihb=>exact⟨iha,ihb⟩
 | block _ b ih=>exact ih
 | loop b ih=>exact ih
 | scope b ih=>exact ih
 | region _ ops _=>exact fun o _=>c0R _
 | rangeFunc f _ a b iha ihb=>exact⟨fun _=>trivial,iha,ihb⟩
 | _=>trivial
inductive a0o(Z:Zone)(X:Tmp->Prop):Item->Prop
 | code (c:Code) (h:CodeP Z c) (hu:CodeU X c):a0o Z X (.code c)
 | inBlock (id:Nat):a0o Z X (.inBlock id)
 | inLoop (c:Code) (h:CodeP Z c) (hu:CodeU X c):a0o Z X (.inLoop c)
 | inScope (c:Code) (h:CodeP Z c) (hu:CodeU X c):a0o Z X (.inScope c)
 | inRegion (ops:Array Oper) (l:List Nat) (h:∀o∈ops,OpP Z o.op) (hu:∀o∈ops,OpU X o.op):a0o Z X (.inRegion ops l)
 | inRangeFunc (l:Nat) (h:Z.D l):a0o Z X (.inRangeFunc l)
 | endRangeFunc (l:Nat) (h:Z.D l):a0o Z X (.endRangeFunc l)
 | beginRound:a0o Z X .beginRound
structure FrP(Z:Zone)(X:Tmp->Prop)(fr:Frame):Prop where
 tmps:∀t,X t->VP Z (fr.tmps.getD t undef)
 todo:∀x∈fr.todo,a0o Z X x
 defers:MarksP Z fr.defers
 mode:fr.mode=.run\/fr.mode=.returning
 kind:fr.kind=.normal
 round:∀l,fr.roundOf=some l->Z.D l
theorem b5g{X:Tmp->Prop}{c:Code}(h:b3l c):a0o Z X (.code c):=by
 cases c<;>first|exact(h:False).elim|exact .code _ trivial trivial
theorem b51{c:Array Value}(h:∀t,Full t->VP Z (c.getD t undef)):AP Z c:=fun x hx=>by
 obtain⟨i,hi,rfl⟩:=Array.mem_iff_getElem.1 hx;have:=h i trivial;simpa [Array.getD_eq_getD_getElem?,hi] using this
def xx(l:List Frame)(X:Tmp->Prop):Tmp->Prop:=match l with
 | []=>X
 | _::_=>Full
def FrL(Z:Zone)(X:Tmp->Prop)(fr:Frame)(l:List Frame):Prop:=FrP Z (xx l X) fr/\(l=[]->fr.roundOf=none)
def b1T(Z:Zone)(X:Tmp->Prop):List Frame->Prop
 | []=>True
 | x::l=>(FrL Z X x l/\x.mode=.run/\x.todo≠[])/\b1T Z X l
def kk(l:List Frame)(κ:List Item):List Item:=match l with
 | []=>κ
 | _::_=>[]
def ext(fr:Frame)(k:List Item):Frame:={fr with todo:=fr.todo++k}
def low:List Frame->List Item->List Frame->List Frame
 | [],_,cs=>cs
 | x::l,κ,cs=>ext x (kk l κ)::low l κ cs
def Gr(fr:Frame)(l:List Frame)(κ:List Item)(cs:List Frame):Goroutine:={frame:=ext fr (kk l κ),callers:=low l κ cs,status:=.running,dying:=none}
def K0:List Item:=[.code (.refuse "")]
def Stops:GStep->Prop
 | .ended _ _ _=>True
 | _=>False
section
variable{Z Z':Zone}(hL:Le Z Z'){X:Tmp->Prop}
include hL
theorem a0o.mono{x:Item}(h:a0o Z X x):a0o Z' X x:=by
 cases h with
 | code c h hu=>exact .code c (h.mono hL) hu
 | inBlock id=>exact .inBlock id
 | inLoop c h hu=>exact .inLoop c (h.mono hL) hu
 | inScope c h hu=>exact .inScope c (h.mono hL) hu
 | inRegion ops l h hu=>exact .inRegion ops l (fun o ho=>(h o ho).mono hL) hu
 | inRangeFunc l h=>exact .inRangeFunc l (hL.D _ h)
 | endRangeFunc l h=>exact .endRangeFunc l (hL.D _ h)
 | beginRound=>exact .beginRound
theorem MarksP.mono{ds:List Deferred}(h:MarksP Z ds):MarksP Z' ds:=fun d hd=>let ⟨r,e,hr⟩:=h d hd;⟨r,e,hL.D _ hr⟩
theorem FrP.mono{fr:Frame}(h:FrP Z X fr):FrP Z' X fr:=⟨fun t ht=>(h.tmps t ht).mono hL,fun x hx=>(h.todo x hx).mono hL,MarksP.mono hL h.defers,h.mode,h.kind,fun l hl=>hL.D _ (h.round l hl)⟩
theorem FrL.mono{fr:Frame}{l:List Frame}(h:FrL Z X fr l):FrL Z' X fr l:=⟨h.1.mono hL,h.2⟩
theorem b1T.mono:∀{l:List Frame},b1T Z X l->b1T Z' X l
 | [],_=>trivial
 | _::_,h=>⟨⟨h.1.1.mono hL,h.1.2⟩,b1T.mono h.2⟩
end
structure Inv(Z:Zone)(Sh:Nat->Prop)(X:Tmp->Prop)(fr:Frame)(l:List Frame)(w:World):Prop where
 fr:FrL (Zf Z Sh w.heap.size) X fr l
 low:b1T (Zf Z Sh w.heap.size) X l
 W:WPs Z Sh w
inductive St(Z:Zone)(Sh:Nat->Prop)(X:Tmp->Prop)(l:List Frame)(w:World)(s:List Item->List Frame->World->GStep):Prop
 | go (fr':Frame) (l':List Frame) (w':World) (es:Array Event) (k:Nat) (a:Asks w w' k) (h:∀κ cs τ p,Agree w k τ p->s κ cs (tp w τ p)=.go (Gr fr' l' κ cs) (tp w' τ (p+k)) es)
  (hI:Inv Z Sh X fr' l' w')(hs:w.heap.size<=w'.heap.size)(he:∀e∈es,EvOK (Zf Z Sh w'.heap.size) w'.heap.size e):St Z Sh X l w s
 | bad (fr':Frame) (chain:List PanicEntry) (w':World) (es:Array Event) (k:Nat) (a:Asks w w' k) (h:∀κ cs τ p,Agree w k τ p->s κ cs (tp w τ p)=.go (Gr fr' l κ cs) (tp w' τ (p+k)) es)
  (hm:fr'.mode=.panicking chain)(hd:MarksP (Zf Z Sh w'.heap.size) fr'.defers)(hW:WPs Z Sh w')(hs:w.heap.size<=w'.heap.size):St Z Sh X l w s
 | stop (k:Nat) (h:∀cs τ p,Agree w k τ p->Stops (s K0 cs (tp w τ p))):St Z Sh X l w s
theorem a0y(fr:Frame):ext fr []=fr:=by unfold ext;rw[List.append_nil]
theorem Z8(fr:Frame)(k:List Item):(ext fr k).eval=fr.eval:=by
 funext x
 cases x<;>rfl
theorem L9{fr:Frame}(h:fr.todo≠[])(k:List Item)(v:Value):(ext fr k).finish v=ext (fr.finish v) k:=by
 obtain⟨fn,tmps,todo,defers,mode,kind,roundOf⟩:=fr;unfold ext Frame.finish
 cases todo with
 | nil=>exact absurd rfl h
 | cons x t=>
  cases x with
  | inRegion ops l=>
   cases l with
   | nil=>rfl
   | cons i rest=>rfl
  | _=>rfl
theorem FrP.finish{X:Tmp->Prop}{fr:Frame}(h:FrP Z X fr){v:Value}(hv:VP Z v):FrP Z X (fr.finish v)/\(fr.finish v).mode=fr.mode/\(fr.finish v).roundOf=fr.roundOf:=by
 obtain⟨fn,tmps,todo,defers,mode,kind,roundOf⟩:=fr;obtain⟨h2,h3,h4,h5,h6,h7⟩:=h;dsimp only at h2 h3 h4 h5 h6 h7;unfold Frame.finish
 cases todo with
 | nil=>exact⟨⟨h2,h3,h4,h5,h6,h7⟩,rfl,rfl⟩
 | cons x k=>
  have hk:∀y∈k,a0o Z X y:=fun y hy=>h3 y (by simp[hy]);have hx:=h3 x (by simp)
  cases hx with
  | inRegion ops l ho hu=>
   cases l with
   | nil=>exact⟨⟨h2,h3,h4,h5,h6,h7⟩,rfl,rfl⟩
   | cons i rest=>
    dsimp only;refine⟨⟨?_,?_,h4,h5,h6,h7⟩,rfl,rfl⟩
    ·dsimp only;split
     ·intro t ht;rw[Array.getD_eq_getD_getElem?,Array.getElem?_setIfInBounds];split
      ·split
       ·exact hv
       ·exact .tuple _ AP.nil
      ·exact Array.getD_eq_getD_getElem? (xs:=tmps)▸h2 t ht
     ·exact h2
    ·intro y hy;rcases List.mem_cons.1 hy with rfl|hy
     ·exact .inRegion _ _ ho hu
     ·exact hk y hy
  | inRangeFunc l hl=>
   dsimp only;refine⟨⟨h2,?_,h4,h5,h6,h7⟩,rfl,rfl⟩;intro y hy;rcases List.mem_cons.1 hy with rfl|hy
   ·exact .endRangeFunc _ hl
   ·exact hk y hy
  | beginRound=>exact⟨⟨h2,hk,h4,h5,h6,h7⟩,rfl,rfl⟩
  | _=>exact⟨⟨h2,h3,h4,h5,h6,h7⟩,rfl,rfl⟩
theorem FrL.finish{X:Tmp->Prop}{fr:Frame}{l:List Frame}(h:FrL Z X fr l){v:Value}(hv:VP Z v):FrL Z X (fr.finish v) l:=by
 obtain⟨h1,-,h3⟩:=h.1.finish hv;exact⟨h1,fun e=>h3.trans (h.2 e)⟩
theorem vp_undef:VP Z undef:=.tuple _ AP.nil
theorem b7W(hP:PQK Z P){X:Tmp->Prop}{f:FuncId}(hf:Z.F f){args:Array Value}(h:AP Z args)(l:List Frame)(x:Frame):FrL Z X (Frame.enter P f args .normal) (x::l):=by
 refine⟨⟨fun t _=>(h.append (AP.replicate _ vp_undef)).getD _ vp_undef,fun x hx=>?_,by intro d hd;simp[Frame.enter] at hd,.inl rfl,rfl,by simp[Frame.enter]⟩,by simp⟩;simp only[Frame.enter,List.mem_singleton] at hx;subst hx;refine .code _ ?_ (codeU_full _)
 cases hfn:P.funcs[f]? with
 | none=>trivial
 | some fn=>
  cases hb:fn.body with
  | none=>simp only[Option.bind_some,hb];trivial
  | some c=>simp only[Option.bind_some,hb];exact hP.code f fn c hf hfn hb
theorem b7X{X:Tmp->Prop}{r:Nat}(hl:Z.D r)(f:FuncId){tmps:Array Value}(ht:AP Z tmps){a b:Code}(ha:CodeP Z a)(hb:CodeP Z b)(l:List Frame)(x:Frame):FrL Z X (Frame.round r f tmps a b .normal) (x::l):=by
 refine⟨⟨fun t _=>ht.getD _ vp_undef,fun x hx=>?_,by intro d hd;simp[Frame.round] at hd,.inl rfl,rfl,by intro l' e;simp[Frame.round] at e;exact e▸hl⟩,by simp⟩;simp only[Frame.round,List.mem_cons,List.not_mem_nil,or_false] at hx;rcases hx with rfl|rfl|rfl
 ·exact .code _ ha (codeU_full _)
 ·exact .beginRound
 ·exact .code _ hb (codeU_full _)
theorem c2x{X:Tmp->Prop}{fr:Frame}(h:FrP Z X fr)(hne:fr.todo≠[]){κ:List Item}{d:Deferred}{b:Bool}{r:String}{s:Array Value}{k:List Item}(e:(ext fr κ).todo=.call d b r s::k):False:=by
 obtain⟨fn,tmps,todo,defers,mode,kind,roundOf⟩:=fr
 cases todo with
 | nil=>exact hne rfl
 | cons x t=>
  injection (show x::(t++κ)=_ from e) with e1;have:=h.todo x (by simp);rw[e1] at this;cases this
theorem a2w{B:Nat}{fn:FuncId}{es:Array Event}(h:∀e∈es,EvOK Z B e):∀e∈seen P fn es++#[],EvOK Z B e:=fun e he=>by
 rw[Array.append_empty] at he;exact h e (Go.Conc.mem_seen he)
theorem raise_mode(fr:Frame)(v:List PanicEntry):∃c,(fr.raise v).mode=.panicking c/\(fr.raise v).defers=fr.defers:=by
 unfold Frame.raise;split<;>exact⟨_,rfl,rfl⟩
theorem a1j(fr:Frame)(κ:List Item)(v:List PanicEntry):(ext fr κ).raise v=ext (fr.raise v) κ:=by
 obtain⟨fn,tmps,todo,defers,mode,kind,roundOf⟩:=fr;cases mode<;>rfl
section
variable{Sh:Nat->Prop}{X:Tmp->Prop}
theorem Inv.same{fr fr':Frame}{l:List Frame}{w:World}(h:Inv Z Sh X fr l w)(h':FrL (Zf Z Sh w.heap.size) X fr' l):Inv Z Sh X fr' l w:=⟨h',h.low,h.W⟩
theorem a81(hP:∀Z',Le Z Z'->PQK Z' P){fr:Frame}{l:List Frame}{w:World}(hI:Inv Z Sh X fr l w)(hm:fr.mode=.run)(hne:fr.todo≠[]){s:Sem Next}(hs:∀Z',Le (Zf Z Sh w.heap.size) Z'->Sf Z' P (a1E Z') s):
 St Z Sh X l w (fun κ cs w=>stepG.apply P true (ext fr (kk l κ)) (low l κ cs) none s w):=by
 have hk:∀κ,((ext fr κ).kind==CallKind.early)=false:=fun κ=>by show(fr.kind==CallKind.early)=false;rw[hI.fr.1.kind];rfl
 have hsn:∀κ es,seen P (ext fr κ).fn es=seen P fr.fn es:=fun _ _=>rfl;rcases both hs hI.W with⟨a,u,es,k,ha,hT,hn,hW',hsz,hev⟩|⟨h,u,es,k,ha,hT,hok,hsz,hW'⟩
 ·have hF:=hI.fr.mono (le_zf (Z:=Z) (Sh:=Sh) hsz);have hLo:=hI.low.mono (le_zf (Z:=Z) (Sh:=Sh) hsz);have hQ:=hP _ hW'.le
  cases hn with
  | value v hv=>
   refine .go (fr.finish v) l u (seen P fr.fn es++#[]) k ha (fun κ cs τ p hA=>?_) ⟨hF.finish hv,hLo,hW'⟩ hsz (a2w hev);unfold stepG.apply;simp only[if_true,hk,hsn,hT τ p hA,L9 hne]
   rfl
  | skip=>
   refine .go (fr.finish undef) l u (seen P fr.fn es++#[]) k ha (fun κ cs τ p hA=>?_) ⟨hF.finish vp_undef,hLo,hW'⟩ hsz (a2w hev);unfold stepG.apply;simp only[if_true,hk,hsn,hT τ p hA,L9 hne]
   rfl
  | enter f args hff haa=>
   refine .go (Frame.enter P f args .normal) (fr::l) u (seen P fr.fn es++#[]) k ha (fun κ cs τ p hA=>?_) ⟨b7W hQ hff haa l fr,⟨⟨hF,hm,hne⟩,hLo⟩,hW'⟩ hsz (a2w hev);unfold stepG.apply;simp only[if_true,hk,hsn,hT τ p hA];dsimp only[GStep.after];split
   ·rename_i e;exact(c2x hI.fr.1 hne e).elim
   ·unfold Gr;show _=GStep.go {frame:=ext (Frame.enter P f args .normal) [],callers:=_,status:=_,dying:=_} _ _;rw[a0y]
    rfl
  | round l0 f tmps a b hD ht haa hbb=>
   refine .go (Frame.round l0 f tmps a b .normal) (fr::l) u (seen P fr.fn es++#[]) k ha (fun κ cs τ p hA=>?_) ⟨b7X hD f ht haa hbb l fr,⟨⟨hF,hm,hne⟩,hLo⟩,hW'⟩ hsz (a2w hev);unfold stepG.apply;simp only[if_true,hk,hsn,hT τ p hA];unfold Gr;show _=GStep.go {frame:=ext (Frame.round l0 f tmps a b .normal) [],callers:=_,status:=_,dying:=_} _ _;rw[a0y];rfl
 ·cases h with
  | panic v=>
   obtain⟨c,hc,hd⟩:=raise_mode fr [{v,recovered:=false}];refine .bad (fr.raise [{v,recovered:=false}]) c u (seen P fr.fn es++#[]) k ha (fun κ cs τ p hA=>?_) hc (by rw[hd];exact MarksP.mono (le_zf hsz) hI.fr.1.defers) hW' hsz;unfold stepG.apply;simp only[if_true,hk,hsn,hT τ p hA,a1j]
   rfl
  | stuck x=>
   refine .stop k fun cs τ p hA=>?_;unfold stepG.apply;simp only[if_true,hk,hT τ p hA]
   trivial
  | unsupported u=>
   refine .stop k fun cs τ p hA=>?_;unfold stepG.apply;simp only[if_true,hk,hT τ p hA]
   cases u<;>first|exact(hok:False).elim|trivial
  | _=>exact(hok:False).elim
theorem a1k{id:Nat}:∀{k k':List Item},exitTo id k=some k'->∀x∈k',x∈k:=by
 intro k
 induction k with
 | nil=>intro k' h;cases h
 | cons y k ih=>
  intro k' h x hx
  cases y with
  | inBlock i=>
   unfold exitTo at h;split at h
   ·injection h with h;subst h;exact List.mem_cons_of_mem _ hx
   ·exact List.mem_cons_of_mem _ (ih h x hx)
  | _=>exact List.mem_cons_of_mem _ (ih (show exitTo id k=some k' from h) x hx)
theorem a0M{id:Nat}(κ:List Item):∀{k k':List Item},exitTo id k=some k'->exitTo id (k++κ)=some (k'++κ):=by
 intro k
 induction k with
 | nil=>intro k' h;cases h
 | cons y k ih=>
  intro k' h
  cases y with
  | inBlock i=>
   unfold exitTo at h;rw[List.cons_append];unfold exitTo;split at h
   ·rename_i e;rw[if_pos e];injection h with h;rw[h]
   ·rename_i e;rw[if_neg e];exact ih h
  | _=>exact ih (k':=k') h
theorem a2x{id:Nat}:∀{k:List Item},exitTo id k=none->exitTo id (k++K0)=none:=by
 intro k
 induction k with
 | nil=>intro _;rfl
 | cons y k ih=>
  intro h
  cases y with
  | inBlock i=>
   unfold exitTo at h;rw[List.cons_append];unfold exitTo;split at h
   ·cases h
   ·rename_i e;rw[if_neg e];exact ih h
  | _=>exact ih h
theorem b1U:∀{c:Code}{l:Nat}{r:Code},CodeP Z c->findLabel c l=some r->CodeP Z r:=by
 intro c
 induction c with
 | seq a b iha ihb=>
  intro l r h e;unfold findLabel at e;split at e
  ·rename_i rest e1;injection e with e;subst e;exact⟨iha h.1 e1,h.2⟩
  ·exact ihb h.2 e
 | label l'=>
  intro l r h e;unfold findLabel at e;split at e
  ·injection e with e;subst e;trivial
  ·cases e
 | _=>intro l r h e;cases e
theorem b3w{X:Tmp->Prop}:∀{c:Code}{l:Nat}{r:Code},CodeU X c->findLabel c l=some r->CodeU X r:=by
 intro c
 induction c with
 | seq a b iha ihb=>
  intro l r h e;unfold findLabel at e;split at e
  ·rename_i rest e1;injection e with e;subst e;exact⟨iha h.1 e1,h.2⟩
  ·exact ihb h.2 e
 | label l'=>
  intro l r h e;unfold findLabel at e;split at e
  ·injection e with e;subst e;trivial
  ·cases e
 | _=>intro l r h e;cases e
theorem b7Y{X:Tmp->Prop}{l:Nat}:∀{k k':List Item},(∀x∈k,a0o Z X x)->gotoIn l k=some k'->∀x∈k',a0o Z X x:=by
 intro k
 induction k with
 | nil=>intro k' _ h;cases h
 | cons y k ih=>
  intro k' hk h;have hk':∀x∈k,a0o Z X x:=fun x hx=>hk x (List.mem_cons_of_mem _ hx)
  cases y with
  | inScope body=>
   have hb:CodeP Z body/\CodeU X body:=by have:=hk (.inScope body) List.mem_cons_self;cases this;exact⟨by assumption,by assumption⟩
   unfold gotoIn at h;split at h
   ·rename_i rest e;injection h with h;subst h;intro x hx;rcases List.mem_cons.1 hx with rfl|hx
    ·exact .code _ (b1U hb.1 e) (b3w hb.2 e)
    rcases List.mem_cons.1 hx with rfl|hx
    ·exact .inScope _ hb.1 hb.2
    ·exact hk' x hx
   ·exact ih hk' h
  | _=>exact ih hk' (show gotoIn l k=some k' from h)
theorem a3x{l:Nat}(κ:List Item):∀{k k':List Item},gotoIn l k=some k'->gotoIn l (k++κ)=some (k'++κ):=by
 intro k
 induction k with
 | nil=>intro k' h;cases h
 | cons y k ih=>
  intro k' h
  cases y with
  | inScope body=>
   unfold gotoIn at h;rw[List.cons_append];unfold gotoIn;split at h
   ·rename_i rest e;injection h with h;subst h;rfl
   ·exact ih h
  | _=>exact ih (k':=k') h
theorem a2y{l:Nat}:∀{k:List Item},gotoIn l k=none->gotoIn l (k++K0)=none:=by
 intro k
 induction k with
 | nil=>intro _;rfl
 | cons y k ih=>
  intro h
  cases y with
  | inScope body=>
   unfold gotoIn at h;rw[List.cons_append];unfold gotoIn;split at h
   ·cases h
   ·exact ih h
  | _=>exact ih h
theorem oprP_eval{Z:Zone}{X:Tmp->Prop}{fr:Frame}(h:FrP Z X fr)(x:Operand)(hx:b4X Z x)(hu:∀t,x=.tmp t->X t):VP Z (fr.eval x):=by
 cases x with
 | tmp t=>exact h.tmps t (hu t rfl)
 | const v=>exact hx
 | global g=>exact .ptr ⟨g,0,none⟩ hx
 | func f=>exact .func _ _ _ (.func f hx) AP.nil AP.nil
theorem a2z{fr:Frame}{l:List Frame}{w:World}(hI:Inv Z Sh X fr l w){k:List Item}(hk:∀x∈k,a0o (Zf Z Sh w.heap.size) (xx l X) x){s:List Item->List Frame->World->GStep}
 (h:∀κ cs w,s κ cs w=.go (Gr {fr with todo:=k} l κ cs) w #[]):St Z Sh X l w s:=
 .go {fr with todo:=k} l w #[] 0 ⟨rfl,rfl⟩ (fun κ cs τ p _=>h κ cs _) (hI.same ⟨⟨hI.fr.1.tmps,hk,hI.fr.1.defers,hI.fr.1.mode,hI.fr.1.kind,hI.fr.1.round⟩,hI.fr.2⟩) (Nat.le_refl _) (by simp)
theorem ret_go(P:Program){fr c:Frame}{l:List Frame}(hk:fr.kind=.normal)(hc:c.todo≠[])(v:Value)(es:Array Event)(κ:List Item)(cs:List Frame)(w:World):
 GStep.after es (doReturn P true fr (low (c::l) κ cs) none v w)=.go (Gr (c.finish v) l κ cs) w (es++#[]):=by
 unfold doReturn;rw[hk];show GStep.after es (GStep.go {frame:=(ext c (kk l κ)).finish v,callers:=low l κ cs,status:=.running,dying:=none} w)=_;rw[L9 hc];rfl
theorem a5X{fr:Frame}{l:List Frame}{w:World}(hI:Inv Z Sh X fr l w)(j:Option Code)(hj:∀c,j=some c->b3l c):
 St Z Sh X l w (fun κ cs w=>match fr.roundOf with
  | none=>if (match j with|none=>true|some .ret=>true|_=>false)=true then .go {frame:={ext fr (kk l κ) with mode:=.returning},callers:=low l κ cs,status:=.running,dying:=none} w else .ended (.stuck "exit, goto: no such block or label" ((ext fr (kk l κ)).pos P)) w
  | some r=>let (r,es):=(Instr.endRound r j).runT P w #[]
   GStep.after (seen P fr.fn es) <| match r with
   | .ok v w=>doReturn P true (ext fr (kk l κ)) (low l κ cs) none v w
   | .halt _ w=>.ended (.stuck "range over a function: no such loop" ((ext fr (kk l κ)).pos P)) w):=by
 have hf:=hI.fr.1
 cases hr:fr.roundOf with
 | none=>
  have main:St Z Sh X l w (fun κ cs w=>.go {frame:={ext fr (kk l κ) with mode:=.returning},callers:=low l κ cs,status:=.running,dying:=none} w):=
   .go {fr with mode:=.returning} l w #[] 0 ⟨rfl,rfl⟩ (fun _ _ _ _ _=>rfl) (hI.same ⟨⟨hf.tmps,hf.todo,hf.defers,.inr rfl,hf.kind,hf.round⟩,hI.fr.2⟩) (Nat.le_refl _) (by simp)
  cases j with
  | none=>exact main
  | some c=>
   cases c with
   | ret=>exact main
   | _=>exact .stop 0 fun _ _ _ _=>trivial
 | some r=>
  rcases both (fun Z' hZ=>b3u (P:=P) (hZ.D _ (hf.round r hr)) j hj) hI.W with⟨v,u,es,k,ha,hT,hv,hW',hsz,hev⟩|⟨h,w',es,k,ha,hT,hok,hsz,hW'⟩
  ·cases l with
   | nil=>exact absurd (hI.fr.2 rfl) (by simp[hr])
   | cons c l=>
    obtain⟨⟨hc,hm,hne⟩,hl⟩:=hI.low.mono (le_zf (Z:=Z) (Sh:=Sh) hsz);refine .go (c.finish v) l u (seen P fr.fn es++#[]) k ha (fun κ cs τ p hA=>?_) ⟨hc.finish hv,hl,hW'⟩ hsz (a2w hev);dsimp only;rw[hT τ p hA];exact ret_go P (fr:=ext fr (kk (c::l) κ)) hf.kind hne v _ κ cs _
  ·refine .stop k fun cs τ p hA=>?_;dsimp only;rw[hT τ p hA];trivial
theorem c2y{n m:Nat}{e:Event}(h:EvOK (Zf Z Sh n) n e)(hn:n<=m):EvOK (Zf Z Sh m) m e:=by
 unfold EvOK at *;split at h
 ·exact⟨h.1,⟨Nat.lt_of_lt_of_le h.2.1.1 hn,h.2.1.2⟩,Nat.lt_of_lt_of_le h.2.2 hn⟩
 ·exact⟨h.1,⟨Nat.lt_of_lt_of_le h.2.1.1 hn,h.2.1.2⟩,Nat.lt_of_lt_of_le h.2.2 hn⟩
 ·exact h
 ·exact h
 ·exact h.elim
theorem St.congr{l:List Frame}{w:World}{s s':List Item->List Frame->World->GStep}(h:∀κ cs w,s κ cs w=s' κ cs w)(k:St Z Sh X l w s'):St Z Sh X l w s:=by
 have:s=s':=by funext κ cs w;exact h κ cs w
 rw[this];exact k
theorem c2z(hP:∀Z',Le Z Z'->PQK Z' P){fr:Frame}{l:List Frame}{w:World}(hI:Inv Z Sh X fr l w)(hm:fr.mode=.run)(hne:¬(l=[]/\fr.todo=[])):
 St Z Sh X l w (fun κ cs w=>stepG.exec P true true (ext fr (kk l κ)) (low l κ cs) none w):=by
 obtain⟨fn,tmps,todo,defers,mode,kind,roundOf⟩:=fr;dsimp only at hm hne;subst hm;have hf:=hI.fr.1
 cases todo with
 | nil=>
  cases l with
  | nil=>exact absurd ⟨rfl,rfl⟩ hne
  | cons c l=>exact a5X hI none (by simp)
 | cons x k=>
  have hk:∀y∈k,a0o (Zf Z Sh w.heap.size) (xx l X) y:=fun y hy=>hf.todo y (by simp[hy]);have hx:=hf.todo x (by simp);have c1:∀{n:Nat}{a:Item},w.heap.size<=n->a0o (Zf Z Sh n) (xx l X) a->∀y∈a::k,a0o (Zf Z Sh n) (xx l X) y:=fun hn ha y hy=>by
   rcases List.mem_cons.1 hy with rfl|hy
   ·exact ha
   ·exact(hk y hy).mono (le_zf hn)
  have c2:∀{a b:Item},a0o (Zf Z Sh w.heap.size) (xx l X) a->a0o (Zf Z Sh w.heap.size) (xx l X) b->∀y∈a::b::k,a0o (Zf Z Sh w.heap.size) (xx l X) y:=fun ha hb y hy=>by
   rcases List.mem_cons.1 hy with rfl|hy
   ·exact ha
   ·exact c1 (Nat.le_refl _) hb y hy
  cases hx with
  | inBlock id=>exact a2z hI hk fun _ _ _=>rfl
  | inScope c h hu=>exact a2z hI hk fun _ _ _=>rfl
  | inLoop c h hu=>exact a2z hI (c2 (.code _ h hu) (.inLoop _ h hu)) fun _ _ _=>rfl
  | inRangeFunc l0 h=>exact .stop 0 fun _ _ _ _=>trivial
  | beginRound=>
   refine a81 hP hI rfl (by simp) (s:=do roundOf.elim (stuck "beginRound: no round") Instr.beginRound;pure .skip) fun Z' hZ=>?_
   cases roundOf with
   | none=>exact(trivial:HaltOK (.stuck _))
   | some r=>exact c2u (a9L (hP Z' (hI.W.le.trans hZ)).toPOK (hZ.D _ (hf.round r rfl)))
  | endRangeFunc l0 h=>
   rcases both (fun Z' hZ=>b5c (P:=P) (hP Z' (hI.W.le.trans hZ)).toPOK (hZ.D _ h)) hI.W with⟨j,u,es,kk',ha,hT,hj,hW',hsz,hev'⟩|⟨x,u,es,kk',ha,hT,hok,hsz,hW'⟩
   ·have hF:=hI.fr.mono (le_zf (Z:=Z) (Sh:=Sh) hsz);refine .go ⟨fn,tmps,(j.map Item.code).toList++k,defers,.run,kind,roundOf⟩ l u (seen P fn es++#[]) kk' ha (fun κ cs τ p hA=>?_) ⟨⟨⟨hF.1.tmps,fun y hy=>?_,hF.1.defers,hF.1.mode,hF.1.kind,hF.1.round⟩,hF.2⟩,hI.low.mono (le_zf hsz),hW'⟩ hsz (a2w hev')
    ·unfold stepG.exec ext;dsimp only[List.cons_append];rw[hT τ p hA];unfold Gr ext;rw[List.append_assoc];rfl
    ·cases j with
     | none=>exact(hk y (by simpa using hy)).mono (le_zf hsz)
     | some c=>
      rcases List.mem_cons.1 (show y∈Item.code c::k from hy) with rfl|hy
      ·
       exact b5g (hj c rfl)
      ·exact(hk y hy).mono (le_zf hsz)
   ·cases x with
    | panic v=>
     obtain⟨c,hc,hd⟩:=raise_mode ⟨fn,tmps,.endRangeFunc l0::k,defers,.run,kind,roundOf⟩ [{v,recovered:=false}];refine .bad (Frame.raise ⟨fn,tmps,.endRangeFunc l0::k,defers,.run,kind,roundOf⟩ [{v,recovered:=false}]) c u (seen P fn es++#[]) kk' ha (fun κ cs τ p hA=>?_) hc (by rw[hd];exact MarksP.mono (le_zf hsz) hf.defers) hW' hsz;unfold stepG.exec ext;dsimp only[List.cons_append];rw[hT τ p hA]
     rfl
    | _=>
     refine .stop kk' fun cs τ p hA=>?_;unfold stepG.exec ext;dsimp only[List.cons_append];rw[hT τ p hA]
     trivial
  | inRegion ops is h hu=>
   cases is with
   | nil=>exact a2z hI hk fun _ _ _=>rfl
   | cons i rest=>
    by_cases hw:((ops[i]?).map (Region.wanted · (yielded ops tmps))).getD false=true
    ·cases ho:ops[i]? with
     | none=>rw[ho] at hw;cases hw
     | some o=>
      have hop:OpP (Zf Z Sh w.heap.size) o.op:=h o (Array.mem_of_getElem? ho);have hou:OpU (xx l X) o.op:=hu o (Array.mem_of_getElem? ho);have main:=a81 hP hI rfl (by simp) (s:=execOp (Frame.eval ⟨fn,tmps,.inRegion ops (i::rest)::k,defers,.run,kind,roundOf⟩) o) fun Z' hZ=>
       sf_execOp (hP Z' (hI.W.le.trans hZ)) (hop.mono hZ).1 fun x hx=>oprP_eval (hf.mono hZ) x ((hop.mono hZ).2 x hx) fun t e=>hou x hx t e
      refine St.congr (fun κ cs w=>?_) main;have e1:(Frame.oper? (ext ⟨fn,tmps,.inRegion ops (i::rest)::k,defers,.run,kind,roundOf⟩ (kk l κ)))=some o:=ho;have e3:=Z8 ⟨fn,tmps,.inRegion ops (i::rest)::k,defers,.run,kind,roundOf⟩ (kk l κ);rw[<-e3];show stepG.exec P true true ⟨fn,tmps,.inRegion ops (i::rest)::(k++kk l κ),defers,.run,kind,roundOf⟩ (low l κ cs) none w=_;unfold stepG.exec;dsimp only;rw[if_pos hw];unfold stepG.oper;simp only[show(Frame.oper? ⟨fn,tmps,.inRegion ops (i::rest)::(k++kk l κ),defers,.run,kind,roundOf⟩)=some o from ho];split
      ·rename_i hd;rw[hd] at hop;exact hop.1.elim
      ·rfl
    ·have hF:=hI.fr.finish (vp_undef);refine .go (Frame.finish ⟨fn,tmps,.inRegion ops (i::rest)::k,defers,.run,kind,roundOf⟩ undef) l w #[] 0 ⟨rfl,rfl⟩ (fun κ cs τ p _=>?_) (hI.same hF) (Nat.le_refl _) (by simp);unfold Gr;rw[<-L9 (by simp)];show stepG.exec P true true ⟨fn,tmps,.inRegion ops (i::rest)::(k++kk l κ),defers,.run,kind,roundOf⟩ (low l κ cs) none _=_;unfold stepG.exec;dsimp only;rw[if_neg hw]
     rfl
  | code c hc hu=>
   cases c with
   | skip=>exact a2z hI hk fun _ _ _=>rfl
   | label _=>exact a2z hI hk fun _ _ _=>rfl
   | seq a b=>exact a2z hI (c2 (.code _ hc.1 hu.1) (.code _ hc.2 hu.2)) fun _ _ _=>rfl
   | cond c a b=>
    by_cases ht:∃t,Frame.eval ⟨fn,tmps,.code (.cond c a b)::k,defers,.run,kind,roundOf⟩ c=.bool t
    ·obtain⟨t,ht⟩:=ht;refine a2z hI (k:=.code (if t then a else b)::k) (c1 (Nat.le_refl _) (.code _ ?_ ?_)) fun κ cs w=>?_
     ·split
      ·exact hc.1
      ·exact hc.2
     ·split
      ·exact hu.1
      ·exact hu.2
     ·rw[<-Z8 _ (kk l κ)] at ht;unfold stepG.exec ext;dsimp only[List.cons_append];dsimp only[ext,List.cons_append] at ht;rw[ht];rfl
    ·refine .stop 0 fun cs τ p _=>?_;rw[<-Z8 _ (kk l K0)] at ht;unfold stepG.exec ext;dsimp only[ext,List.cons_append] at ht⊢;split
     ·rename_i t e;exact absurd ⟨t,e⟩ ht
     ·trivial
   | block id b=>exact a2z hI (c2 (.code b hc hu) (.inBlock id)) fun _ _ _=>rfl
   | loop b=>exact a2z hI (c2 (.code b hc hu) (.inLoop b hc hu)) fun _ _ _=>rfl
   | scope b=>exact a2z hI (c2 (.code b hc hu) (.inScope b hc hu)) fun _ _ _=>rfl
   | ret=>exact a5X hI (some .ret) (by rintro _ ⟨⟩;trivial)
   | refuse why=>exact .stop 0 fun _ _ _ _=>trivial
   | exit id=>
    cases e:exitTo id k with
    | none=>
     cases l with
     | nil=>
      refine .stop 0 fun cs τ p _=>?_;have hr:roundOf=none:=hI.fr.2 rfl;subst hr;show Stops (stepG.exec P true true ⟨fn,tmps,.code (.exit id)::(k++K0),defers,.run,kind,none⟩ _ none _);unfold stepG.exec;dsimp only;rw[a2x e]
      trivial
     | cons c l=>
      refine St.congr (fun κ cs w=>?_) (a5X (P:=P) hI (some (.exit id)) (by rintro _ ⟨⟩;trivial));show stepG.exec P true true ⟨fn,tmps,.code (.exit id)::(k++[]),defers,.run,kind,roundOf⟩ _ none _=_;unfold stepG.exec;dsimp only;rw[List.append_nil,e];show _=(match roundOf with|none=>_|some r=>_)
      cases roundOf with
      | none=>rfl
      | some r=>dsimp only[kk];rw[a0y];rfl
    | some k'=>
     refine a2z hI (fun y hy=>hk y (a1k e y hy)) fun κ cs w=>?_;show stepG.exec P true true ⟨fn,tmps,.code (.exit id)::(k++kk l κ),defers,.run,kind,roundOf⟩ _ none _=_;unfold stepG.exec;dsimp only;rw[a0M _ e]
     rfl
   | goto l0=>
    cases e:gotoIn l0 k with
    | none=>
     cases l with
     | nil=>
      refine .stop 0 fun cs τ p _=>?_;have hr:roundOf=none:=hI.fr.2 rfl;subst hr;show Stops (stepG.exec P true true ⟨fn,tmps,.code (.goto l0)::(k++K0),defers,.run,kind,none⟩ _ none _);unfold stepG.exec;dsimp only;rw[a2y e]
      trivial
     | cons c l=>
      refine St.congr (fun κ cs w=>?_) (a5X (P:=P) hI (some (.goto l0)) (by rintro _ ⟨⟩;trivial));show stepG.exec P true true ⟨fn,tmps,.code (.goto l0)::(k++[]),defers,.run,kind,roundOf⟩ _ none _=_;unfold stepG.exec;dsimp only;rw[List.append_nil,e];show _=(match roundOf with|none=>_|some r=>_)
      cases roundOf with
      | none=>rfl
      | some r=>dsimp only[kk];rw[a0y];rfl
    | some k'=>
     refine a2z hI (b7Y hk e) fun κ cs w=>?_;show stepG.exec P true true ⟨fn,tmps,.code (.goto l0)::(k++kk l κ),defers,.run,kind,roundOf⟩ _ none _=_;unfold stepG.exec;dsimp only;rw[a3x _ e]
     rfl
   | region id ops draw=>
    cases draw with
    | false=>exact a2z hI (c1 (Nat.le_refl _) (.inRegion ops _ hc hu)) fun _ _ _=>rfl
    | true=>
     refine .go ⟨fn,tmps,.inRegion ops (Region.schedule (P.follows .mixedOrders) ops ((Question.order fn id).cut (w.tape w.drawn (.order fn id))))::k,defers,.run,kind,roundOf⟩ l {w with drawn:=w.drawn+1} #[] 1 ⟨rfl,rfl⟩ (fun κ cs τ p hA=>?_) ⟨⟨⟨hf.tmps,c1 (Nat.le_refl _) (.inRegion ops _ hc hu),hf.defers,hf.mode,hf.kind,hf.round⟩,hI.fr.2⟩,hI.low,⟨hI.W.obj,hI.W.sh,hI.W.base⟩⟩ (Nat.le_refl _) (by simp);have h0:τ p (.order fn id)=w.tape w.drawn (.order fn id):=by simpa using hA 0 (by omega) (.order fn id)
     show GStep.go _ _ _=_;rw[<-h0]
     rfl
   | rangeFunc f params assign body=>
    have hAP:AP (Zf Z Sh w.heap.size) tmps:=b51 fun t _=>hf.tmps t (hu.1 t);rcases both (fun Z' hZ=>b1S (P:=P) (fn:=fn) (hAP.mono hZ) params (hc.2.1.mono hZ) (hc.2.2.mono hZ) (fun l e=>hZ.D _ (hf.round l e))) hI.W with⟨r,u,es,k1,ha,hT,⟨hr,hds⟩,hW',hsz,hev'⟩|⟨x,w',es,k1,ha,hT,hok,hsz,hW'⟩
    ·obtain⟨l0,mark⟩:=r;have hF:=hI.fr.mono (le_zf (Z:=Z) (Sh:=Sh) hsz);have hI':Inv Z Sh X ⟨fn,tmps,.inRangeFunc l0::k,mark++defers,.run,kind,roundOf⟩ l u:=
      ⟨⟨⟨hF.1.tmps,c1 hsz (.inRangeFunc _ hr),fun d hd=>(List.mem_append.1 hd).elim (hds d) (hF.1.defers d),hF.1.mode,hF.1.kind,hF.1.round⟩,hF.2⟩,hI.low.mono (le_zf hsz),hW'⟩
     have main:=a81 hP hI' rfl (by simp) (s:=do let d <-resolve (Frame.eval ⟨fn,tmps,.inRangeFunc l0::k,mark++defers,.run,kind,roundOf⟩) {callee:=.value f,args:=#[.const (.func (.yield l0) #[] #[])],argTypes:=#[]} 0;invoke d.target d.args) (fun Z' hZ=>by
      refine Sf.bind (a8Y (c:={callee:=.value f,args:=#[.const (.func (.yield l0) #[] #[])],argTypes:=#[]}) (fun x hx=>oprP_eval (hI'.fr.1.mono hZ) x ?_ fun t _=>hu.1 t) (show a4s Z' (.value f) from trivial) _) fun d hd=>b0K (hP Z' (hI'.W.le.trans hZ)) hd;simp[Call.operands] at hx;rcases hx with rfl|rfl
      ·exact hc.1.mono ((le_zf hsz).trans hZ)
      ·exact .func _ _ _ (.yield _ (hZ.D _ hr)) AP.nil AP.nil)
     have e2:∀κ cs τ p,Agree w k1 τ p->stepG.exec P true true (ext ⟨fn,tmps,.code (.rangeFunc f params assign body)::k,defers,.run,kind,roundOf⟩ (kk l κ)) (low l κ cs) none (tp w τ p)=GStep.after (seen P fn es) (stepG.apply P true (ext ⟨fn,tmps,.inRangeFunc l0::k,mark++defers,.run,kind,roundOf⟩ (kk l κ)) (low l κ cs) none (do let d <-resolve (Frame.eval ⟨fn,tmps,.inRangeFunc l0::k,mark++defers,.run,kind,roundOf⟩) {callee:=.value f,args:=#[.const (.func (.yield l0) #[] #[])],argTypes:=#[]} 0;invoke d.target d.args) (tp u τ (p+k1))):=fun κ cs τ p hA=>by
      show stepG.exec P true true ⟨fn,tmps,.code (.rangeFunc f params assign body)::(k++kk l κ),defers,.run,kind,roundOf⟩ _ none _=_;rw[<-Z8 ⟨fn,tmps,.inRangeFunc l0::k,mark++defers,.run,kind,roundOf⟩ (kk l κ)];unfold stepG.exec;dsimp only;rw[hT τ p hA];rfl
     cases main with
     | go fr' l' w' es' k2 a2 h h1 h5 h6=>
      refine .go fr' l' w' (seen P fn es++es') (k1+k2) (ha.trans a2) (fun κ cs τ p hA=>?_) h1 (Nat.le_trans hsz h5) ?_
      ·rw[e2 κ cs τ p hA.left,h κ cs τ (p+k1) (hA.right ha),Nat.add_assoc];rfl
      ·intro e he;rcases Array.mem_append.1 he with he|he
       ·exact c2y (hev' e (Go.Conc.mem_seen he)) h5
       ·exact h6 e he
     | bad fr' c w' es' k2 a2 h hm hd hW2 hs2=>
      refine .bad fr' c w' (seen P fn es++es') (k1+k2) (ha.trans a2) (fun κ cs τ p hA=>?_) hm hd hW2 (Nat.le_trans hsz hs2)
      rw[e2 κ cs τ p hA.left,h κ cs τ (p+k1) (hA.right ha),Nat.add_assoc];rfl
     | stop k2 h=>
      refine .stop (k1+k2) fun cs τ p hA=>?_;have:=h cs τ (p+k1) (hA.right ha);rw[e2 K0 cs τ p hA.left];revert this;generalize stepG.apply P true _ _ _ _ _=x;intro this;cases x<;>first|trivial|exact this.elim
    ·refine .stop k1 fun cs τ p hA=>?_;show Stops (stepG.exec P true true ⟨fn,tmps,.code (.rangeFunc f params assign body)::(k++kk l K0),defers,.run,kind,roundOf⟩ _ none _);unfold stepG.exec;dsimp only;rw[hT τ p hA];trivial
theorem b5h{fn:Func}{tmps:Array Value}(hP:POK Z P)(h:AP Z tmps):Sf Z P (VP Z) (results fn tmps):=by
 unfold results;refine Sf.bind (b50 (I:=VP Z) _ _ fun r _=>?_) fun vs hvs=>Sf.pure ?_
 ·split
  ·exact Sf.pure (h.getD _ vp_undef)
  ·exact Sf.bind (a1X hP (h.getD _ vp_undef)) fun a ha=>a0u _ ha
 ·split
  ·exact hvs _ (Array.getElem_mem _)
  ·exact .tuple _ hvs
theorem a2m(x:Frame)(l:List Frame)(κ:List Item)(cs:List Frame):low (x::l) κ cs=ext x (kk l κ)::low l κ cs:=rfl
theorem b7Z(hP:∀Z',Le Z Z'->PQK Z' P){fr:Frame}{l:List Frame}{w:World}(hI:Inv Z Sh X fr l w)(hm:fr.mode=.returning)(hne:¬(l=[]/\fr.defers=[])):
 St Z Sh X l w (fun κ cs w=>unwind P true (ext fr (kk l κ)) (low l κ cs) none w):=by
 have hf:=hI.fr.1;have em:∀k,(ext fr k).mode=.returning:=fun _=>hm;have ed:∀k,(ext fr k).defers=fr.defers:=fun _=>rfl;have en:∀k,(ext fr k).fn=fr.fn:=fun _=>rfl;have et:∀k,(ext fr k).tmps=fr.tmps:=fun _=>rfl
 cases hd:fr.defers with
 | cons d ds=>
  obtain⟨r,rfl,hr⟩:=hf.defers d (by rw[hd];simp);rcases both (fun Z' hZ=>a3G (P:=P) (hZ.D _ hr)) hI.W with⟨c,u,es,k1,ha,hT,rfl,hW',hsz,hev⟩|⟨x,w',es,k1,ha,hT,hok,hsz,hW'⟩
  ·have hF:=hI.fr.mono (le_zf (Z:=Z) (Sh:=Sh) hsz);refine .go {fr with defers:=ds} l u (seen P fr.fn es++#[]) k1 ha (fun κ cs τ p hA=>?_) ⟨⟨⟨hF.1.tmps,hF.1.todo,fun d h=>hF.1.defers d (by rw[hd];simp[h]),.inr hm,hF.1.kind,hF.1.round⟩,hF.2⟩,hI.low.mono (le_zf hsz),hW'⟩ hsz (a2w hev);unfold unwind;rw[ed,hd];dsimp only;rw[hT τ p hA];rfl
  ·refine .stop k1 fun cs τ p hA=>?_;unfold unwind;rw[ed,hd];dsimp only;rw[hT τ p hA]
   trivial
 | nil=>
  cases l with
  | nil=>exact absurd ⟨rfl,hd⟩ hne
  | cons c l=>
   cases hfn:P.funcs[fr.fn]? with
   | none=>
    obtain⟨⟨hc,-,hcn⟩,hl⟩:=hI.low;refine .go (c.finish (fr.tmps.getD 0 undef)) l w #[] 0 ⟨rfl,rfl⟩ (fun κ cs τ p _=>?_) ⟨hc.finish (hf.tmps 0 trivial),hl,hI.W⟩ (Nat.le_refl _) (by simp);unfold unwind;rw[ed,hd,em];dsimp only;rw[en,hfn];dsimp only;unfold doReturn;rw[show(ext fr (kk (c::l) κ)).kind=.normal from hf.kind];rw[a2m];dsimp only;rw[L9 hcn]
    rfl
   | some fn=>
    rcases both (fun Z' hZ=>b5h (fn:=fn) (hP Z' (hI.W.le.trans hZ)).toPOK (AP.mono hZ (b51 hf.tmps))) hI.W with⟨v,u,es,k1,ha,hT,hv,hW',hsz,hev⟩|⟨x,w',es,k1,ha,hT,hok,hsz,hW'⟩
    ·obtain⟨⟨hc,-,hcn⟩,hl⟩:=hI.low.mono (le_zf (Z:=Z) (Sh:=Sh) hsz);refine .go (c.finish v) l u (seen P fr.fn es++#[]) k1 ha (fun κ cs τ p hA=>?_) ⟨hc.finish hv,hl,hW'⟩ hsz (a2w hev);unfold unwind;rw[ed,hd,em];dsimp only;rw[en,hfn];dsimp only;rw[et,hT τ p hA];exact ret_go P (fr:=ext fr (kk (c::l) κ)) hf.kind hcn v _ κ cs _
    ·refine .stop k1 fun cs τ p hA=>?_;unfold unwind;rw[ed,hd,em];dsimp only;rw[en,hfn];dsimp only;rw[et,hT τ p hA];cases x<;>trivial
def Stop(fr:Frame)(l:List Frame):Prop:=l=[]/\((fr.mode=.run/\fr.todo=[])\/(fr.mode=.returning/\fr.defers=[]))
theorem c2A(hP:∀Z',Le Z Z'->PQK Z' P){fr:Frame}{l:List Frame}{w:World}(hI:Inv Z Sh X fr l w)(hne:¬Stop fr l):
 St Z Sh X l w (fun κ cs w=>stepG P true (Gr fr l κ cs) w):=by
 rcases hI.fr.1.mode with hm|hm
 ·refine St.congr (fun κ cs w=>?_) (c2z hP hI hm fun h=>hne ⟨h.1,.inl ⟨hm,h.2⟩⟩);unfold stepG Gr;dsimp only;rw[show(ext fr (kk l κ)).mode=.run from hm]
 ·refine St.congr (fun κ cs w=>?_) (b7Z hP hI hm fun h=>hne ⟨h.1,.inr ⟨hm,h.2⟩⟩);unfold stepG Gr;dsimp only;rw[show(ext fr (kk l κ)).mode=.returning from hm]
end
end
end Go.Zn
