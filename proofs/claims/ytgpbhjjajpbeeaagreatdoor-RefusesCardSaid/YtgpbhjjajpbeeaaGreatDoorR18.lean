/- A part of what the last file proves. -/
import Derived.Test.YtgpbhjjajpbeeaaGreatDoorR17
set_option linter.all false
set_option maxRecDepth 100000
set_option maxHeartbeats 4000000
namespace Go.Bi
section
open Zn (ext low kk Gr K0 Nx a0y L9 Z8 a0M xx Full)
variable{S:Sit}{P:Program}{X:Tmp->Prop}
def CodeB(S:Sit)(P:Program)(X:Tmp->Prop):Code->Prop
 | .seq a b=>CodeB S P X a/\CodeB S P X b
 | .cond c a b=>(b2g S c/\∀t,c=.tmp t->X t)/\CodeB S P X a/\CodeB S P X b
 | .block _ b=>CodeB S P X b
 | .loop b=>CodeB S P X b
 | .region _ ops _=>∀o∈ops,OpB S P o.op/\(∀x∈o.op.operands,b2g S x/\∀t,x=.tmp t->X t)/\∀t,o.dst=some t->X t
 | .skip|.label _|.exit _|.ret=>True
 | _=>False
inductive a1u(S:Sit)(P:Program)(X:Tmp->Prop):Item->Prop
 | code (c:Code) (h:CodeB S P X c):a1u S P X (.code c)
 | inBlock (id:Nat):a1u S P X (.inBlock id)
 | inLoop (c:Code) (h:CodeB S P X c):a1u S P X (.inLoop c)
 | inRegion (ops:Array Oper) (l:List Nat) (h:∀o∈ops,OpB S P o.op/\(∀x∈o.op.operands,b2g S x/\∀t,x=.tmp t->X t)/\∀t,o.dst=some t->X t):a1u S P X (.inRegion ops l)
section
variable{S':Sit}(hL:SLe S S')
include hL
theorem CodeB.mono{c:Code}(h:CodeB S P X c):CodeB S' P X c:=by
 induction c with
 | seq a b iha ihb=>exact⟨iha h.1,ihb h.2⟩
 | cond c a b iha ihb=>exact⟨⟨h.1.1.mono hL,h.1.2⟩,iha h.2.1,ihb h.2.2⟩
 | block _ b ih=>exact ih h
 | loop b ih=>exact ih h
 | region _ ops _=>exact fun o ho=>⟨(h o ho).1.mono hL,fun x hx=>⟨((h o ho).2.1 x hx).1.mono hL,((h o ho).2.1 x hx).2⟩,(h o ho).2.2⟩
 | skip=>trivial
 | label _=>trivial
 | exit _=>trivial
 | ret=>trivial
 | _=>exact(h:False).elim
theorem a1u.mono{x:Item}(h:a1u S P X x):a1u S' P X x:=by
 cases h with
 | code c h=>exact .code c (h.mono hL)
 | inBlock id=>exact .inBlock id
 | inLoop c h=>exact .inLoop c (h.mono hL)
 | inRegion ops l h=>exact .inRegion ops l fun o ho=>⟨(h o ho).1.mono hL,fun x hx=>⟨((h o ho).2.1 x hx).1.mono hL,((h o ho).2.1 x hx).2⟩,(h o ho).2.2⟩
end
def Kept(S:Sit)(X:Tmp->Prop)(l:List Frame)(fr':Frame):Prop:=(∀t,¬X t->fr'.tmps.getD t undef=S.K t)/\(l=[]->fr'.defers=S.Kd/\fr'.kind=S.Kk)
structure FrR(S:Sit)(P:Program)(X:Tmp->Prop)(l:List Frame)(fr fr':Frame):Prop where
 fn:fr'.fn=fr.fn
 size:fr'.tmps.size=fr.tmps.size
 tmps:∀t,xx l X t->VR S (fr.tmps.getD t undef) (fr'.tmps.getD t undef)
 todo:fr'.todo=fr.todo
 items:∀x∈fr.todo,a1u S P (xx l X) x
 mode:fr'.mode=fr.mode
 modes:fr.mode=.run\/fr.mode=.returning
 round:fr.roundOf=none
 round':fr'.roundOf=none
 early:fr.kind≠.early/\fr'.kind≠.early
 up:l≠[]->fr.kind=.normal/\fr'.kind=.normal/\fr.defers=[]/\fr'.defers=[]
 ld:fr.defers=[]
 kp:Kept S (xx l X) l fr'
theorem FrR.mono{S':Sit}(hL:SLe S S'){l:List Frame}{fr fr':Frame}(h:FrR S P X l fr fr'):FrR S' P X l fr fr':=
 ⟨h.fn,h.size,fun t ht=>(h.tmps t ht).mono hL,h.todo,fun x hx=>(h.items x hx).mono hL,h.mode,h.modes,h.round,h.round',h.early,h.up,h.ld,⟨fun t ht=>(h.kp.1 t ht).trans (by rw[hL.k.1]),fun e=>⟨(h.kp.2 e).1.trans hL.k.2.1.symm,(h.kp.2 e).2.trans hL.k.2.2.symm⟩⟩⟩
inductive a4O(S:Sit)(P:Program)(X:Tmp->Prop):List Frame->List Frame->Prop
 | nil:a4O S P X [] []
 | cons (x y:Frame) (l k:List Frame) (h:FrR S P X l x y) (hm:x.mode=.run) (hne:x.todo≠[]) (hl:a4O S P X l k):a4O S P X (x::l) (y::k)
theorem a4O.mono{S':Sit}(hL:SLe S S'){l k:List Frame}(h:a4O S P X l k):a4O S' P X l k:=by
 induction h with
 | nil=>exact .nil
 | cons x y l k h hm hne _ ih=>exact .cons x y l k (h.mono hL) hm hne ih
theorem a4O.kk{l k:List Frame}(h:a4O S P X l k)(κ:List Item):Zn.kk k κ = Zn.kk l κ:=by
 cases h<;>rfl
theorem a2I:VR S undef undef:=VR.tuple' AR.nil
theorem FrR.eval{l:List Frame}{fr fr':Frame}(h:FrR S P X l fr fr'){x:Operand}(hx:b2g S x)(hu:∀t,x=.tmp t->xx l X t):VR S (fr.eval x) (fr'.eval x):=by
 cases x with
 | tmp t=>exact h.tmps t (hu t rfl)
 | const v=>exact hx
 | global g=>exact hx.elim
 | func f=>exact .func _ _ _ _ _ _ (.func f hx) rfl (fun i h1=>by simp at h1) rfl (fun i h1=>by simp at h1)
theorem b3J{l:List Frame}{fr fr':Frame}(h:FrR S P X l fr fr'){ops:Array Oper}(ho:∀o∈ops,∀t,o.dst=some t->xx l X t):yielded ops fr'.tmps=yielded ops fr.tmps:=by
 funext j
 unfold yielded
 cases h1:ops[j]? with
 | none=>rfl
 | some o=>
  cases h2:o.dst with
  | none=>simp[h2]
  | some t=>
   have hv:=h.tmps t (ho o (Array.mem_of_getElem? h1) t h2);rw[Array.getD_eq_getD_getElem?,Array.getD_eq_getD_getElem?] at hv;simp only[Option.bind_some,h2];by_cases hlt:t<fr.tmps.size
   ·have hlt':t<fr'.tmps.size:=by rw[h.size];exact hlt
    rw[Array.getElem?_eq_getElem hlt,Array.getElem?_eq_getElem hlt'] at hv⊢;simp only[Option.getD_some] at hv;generalize fr.tmps[t]=a at hv;generalize fr'.tmps[t]=b at hv;cases hv<;>rfl
   ·have:=h.size;have h4:fr.tmps.size<=t:=Nat.le_of_not_lt hlt;have h5:fr'.tmps.size<=t:=by rw[this];exact h4
    rw[Array.getElem?_eq_none h5,Array.getElem?_eq_none h4]
theorem FrR.finish{l:List Frame}{fr fr':Frame}(h:FrR S P X l fr fr')(hm:fr.mode=.run){v v':Value}(hv:VR S v v'):FrR S P X l (fr.finish v) (fr'.finish v'):=by
 obtain⟨fn,tmps,todo,defers,mode,kind,roundOf⟩:=fr;obtain⟨fn',tmps',todo',defers',mode',kind',roundOf'⟩:=fr';obtain⟨h1,h2,h3,h4,h5,h6,h7,h8,h9,h10,h11,h12,h13⟩:=h;dsimp only at h1 h2 h3 h4 h5 h6 h7 h8 h9 h10 h11 h12 h13;subst h4;unfold Frame.finish
 cases todo' with
 | nil=>exact⟨h1,h2,h3,rfl,h5,h6,h7,h8,h9,h10,h11,h12,h13⟩
 | cons x k=>
  have hk:∀y∈k,a1u S P (xx l X) y:=fun y hy=>h5 y (by simp[hy]);have hx:=h5 x (by simp)
  cases hx with
  | inRegion ops is ho=>
   cases is with
   | nil=>exact⟨h1,h2,h3,rfl,h5,h6,h7,h8,h9,h10,h11,h12,h13⟩
   | cons i rest=>
    dsimp only;refine⟨h1,?_,?_,rfl,?_,h6,h7,h8,h9,h10,h11,h12,⟨?_,h13.2⟩⟩
    ·dsimp only;split<;>simp[h2]
    ·dsimp only;split
     ·rename_i d hd;intro t ht;rw[Array.getD_eq_getD_getElem?,Array.getD_eq_getD_getElem?,Array.getElem?_setIfInBounds,Array.getElem?_setIfInBounds,h2];split
      ·split
       ·exact hv
       ·exact a2I
      ·exact Array.getD_eq_getD_getElem? (xs:=tmps)▸Array.getD_eq_getD_getElem? (xs:=tmps')▸h3 t ht
     ·exact h3
    ·intro y hy;rcases List.mem_cons.1 hy with rfl|hy
     ·exact .inRegion _ _ ho
     ·exact hk y hy
    ·dsimp only;split
     ·rename_i d hd;intro t ht;obtain⟨o,ho1,ho2⟩:=Option.bind_eq_some_iff.1 hd;have hne:d≠t:=fun e=>ht (e▸(ho o (Array.mem_of_getElem? ho1)).2.2 d ho2);rw[Array.getD_eq_getD_getElem?,Array.getElem?_setIfInBounds_ne hne,<-Array.getD_eq_getD_getElem?];exact h13.1 t ht
     ·exact h13.1
  | _=>exact⟨h1,h2,h3,rfl,h5,h6,h7,h8,h9,h10,h11,h12,h13⟩
structure Gre(S S':Sit)(w w':World)(es:Array Event):Prop where
 size:w.heap.size<=w'.heap.size
 tape:w'.tape=w.tape
 os:w'.os=w.os
 output:w'.output=w.output
 old:∀b,b<w.heap.size->(∀a,S.D a->S.W a->S.ren a≠b)->w'.heap[b]?=w.heap[b]?
 new:∀b,S'.D b->S'.W b->S.W b/\S.D b\/w.heap.size<=S'.ren b
 ev:∀e∈es,EvOK S' w'.heap.size e
 dw:∀b,S'.D b->S.D b\/S'.W b
def Fol(P:Program)(S:Sit)(X:Tmp->Prop)(w2:World)(s:List Item->List Frame->GStep)(fr':Frame)(l':List Frame)(w':World):Prop:=
 ∃S' fr2' l2' w2' es2,(∀κ cs,s κ cs=.go (Gr fr2' l2' κ cs) w2' es2)/\SLe S S'/\PQB S' P/\Cur S' w'/\FrR S' P X l' fr' fr2'/\a4O S' P X l' l2'/\WR S' w' w2'/\Gre S S' w2 w2' es2
theorem a3L(fr:Frame)(l:List Frame):Gr fr l [] []={frame:=fr,callers:=l,status:=.running,dying:=none}:=by
 have e1:∀l:List Frame,kk l []=[]:=fun l=>by cases l<;>rfl
 have e2:∀l:List Frame,low l [] []=l:=by
  intro l
  induction l with
  | nil=>rfl
  | cons x l ih=>unfold low;rw[e1,a0y,ih]
 unfold Gr;rw[e1,a0y,e2]
theorem b8x{fr fr2:Frame}{l l2:List Frame}{w w2:World}{fr':Frame}{l':List Frame}{w':World}{es:Array Event}(hP:PQB S P)(hc:Cur S w)(hF:FrR S P X l fr fr2)(hLo:a4O S P X l l2)(hW:WR S w w2)
 (h1:P.globals.size<=w.heap.size)(h2:P.globals.size<=w2.heap.size)(ht:w2.tape=w.tape)(hd:w2.drawn=w.drawn)
 (hcode:∀f fn c,S.F f->P.funcs[f]?=some fn->fn.body=some c->CodeB S P Full c)
 (hm:fr.mode=.run){ops:Array Oper}{is:List Nat}{k:List Item}(htd:fr.todo=.inRegion ops is::k)(hm':∀c,fr'.mode≠.panicking c){s s2:Sem Next}(him:∀S',SLe S S'->PQB S' P->Im S' P (a5k S') s s2)
 (hh:(∃a u,s.run P w=.ok a u)\/∃x u,s.run P w=.halt x u/\Zn.HaltOK x)
 (h0:stepG.apply P true fr l none s w=.go (Gr fr' l' [] []) w' es):
 Fol P S X w2 (fun κ cs=>stepG.apply P true (ext fr2 (kk l2 κ)) (low l2 κ cs) none s2 w2) fr' l' w':=by
 rw[a3L] at h0;have hk1:(fr.kind==CallKind.early)=false:=by have:=hF.early.1;cases hx:fr.kind<;>simp_all<;>rfl
 have hk2:∀κ,((ext fr2 κ).kind==CallKind.early)=false:=fun κ=>by
  show(fr2.kind==CallKind.early)=false;have:=hF.early.2;cases hx:fr2.kind<;>simp_all<;>rfl
 have hrun:∀{r:Result Next},s.run P w=r->∃es0,s.runT P w #[]=(r,es0):=fun{r}e=>⟨(s.runT P w #[]).2,by
  have:=Sem.runT_fst P s w #[];rw[e] at this;exact Prod.ext this rfl⟩
 have hne2:fr2.todo≠[]:=by rw[hF.todo,htd];simp
 rcases hh with⟨a,u,hr⟩|⟨x,u,hr,hok⟩
 ·obtain⟨es0,hr0⟩:=hrun hr;obtain⟨S',b,u2,es2,g1,g2,g3,g4,g5,g6,g7,g8,g9,g10,g11,g12,g13,g14,g15,g16,g17⟩:=both hP hc hW h1 h2 ht hd him hr;have hF':=hF.mono g2;have hLo':=hLo.mono g2;have gre:∀es3:Array Event,(∀e∈es3,e∈es2)->Gre S S' w2 u2 es3:=fun es3 hes=>⟨g8,g9,g12,g13,g15,g16,fun e he=>g14 e (hes e he),g17⟩;have hes:∀e∈seen P fr2.fn es2++#[],e∈es2:=fun e he=>by
   rw[Array.append_empty] at he;exact Go.Conc.mem_seen he
  unfold stepG.apply at h0;simp only[if_true,hk1,hr0,Bool.false_eq_true,if_false] at h0
  cases g5 with
  | value v v' hv=>
   injection h0 with e1 e2 e3;injection e1 with e4 e5;subst e4;subst e5;subst e2;refine⟨S',fr2.finish v',l2,u2,seen P fr2.fn es2++#[],fun κ cs=>?_,g2,g3,g4,hF'.finish hm hv,hLo',g6,gre _ hes⟩;unfold stepG.apply;simp only[if_true,hk2,g1,Bool.false_eq_true,if_false];rw[L9 hne2]
   rfl
  | skip=>
   injection h0 with e1 e2 e3;injection e1 with e4 e5;subst e4;subst e5;subst e2;refine⟨S',fr2.finish undef,l2,u2,seen P fr2.fn es2++#[],fun κ cs=>?_,g2,g3,g4,hF'.finish hm a2I,hLo',g6,gre _ hes⟩;unfold stepG.apply;simp only[if_true,hk2,g1,Bool.false_eq_true,if_false];rw[L9 hne2]
   rfl
  | enter f args args' hf ha=>
   obtain⟨fn,h3,h4,-⟩:=hP.body f (g2.F▸hf);have hcall:∀κ,(ext fr2 κ).todo=.inRegion ops is::(k++κ):=fun κ=>by
    unfold ext;rw[hF.todo,htd];rfl
   dsimp only[GStep.after] at h0;rw[htd] at h0;dsimp only at h0;injection h0 with e1 e2 e3;injection e1 with e4 e5;subst e4;subst e5;subst e2;refine⟨S',Frame.enter P f args' .normal,fr2::l2,u2,seen P fr2.fn es2++#[],fun κ cs=>?_,g2,g3,g4,?_,.cons fr fr2 l l2 hF' hm (by rw[htd];simp) hLo',g6,gre _ hes⟩
   ·unfold stepG.apply;simp only[if_true,hk2,g1,Bool.false_eq_true,if_false];dsimp only[GStep.after];rw[hcall];dsimp only;unfold Gr;show _=GStep.go {frame:=ext (Frame.enter P f args' .normal) [],callers:=_,status:=_,dying:=_} _ _;rw[a0y];rfl
   ·refine⟨rfl,?_,fun t _=>?_,rfl,fun x hx=>?_,rfl,.inl rfl,rfl,rfl,⟨by simp[Frame.enter],by simp[Frame.enter]⟩,fun _=>⟨rfl,rfl,rfl,rfl⟩,rfl,⟨fun t ht=>absurd trivial ht,fun e=>by cases e⟩⟩
    ·simp[Frame.enter,ha.size]
    ·simp only[Frame.enter];rw[<-ha.size];exact(ha.append (AR.replicate _ a2I)).getD _ a2I
    ·simp only[Frame.enter,List.mem_singleton] at hx;subst hx;refine .code _ ?_;rw[h3]
     cases hb:fn.body with
     | none=>rw[hb] at h4;cases h4
     | some c=>
      simp only[Option.bind_some,hb,Option.getD_some];exact(hcode f fn c (g2.F▸hf) h3 hb).mono g2
 ·obtain⟨es0,hr0⟩:=hrun hr;exfalso;unfold stepG.apply at h0;simp only[if_true,hk1,hr0,Bool.false_eq_true,if_false] at h0
  cases x with
  | panic v=>
   injection h0 with e1 e2 e3;injection e1 with e4 e5;obtain⟨c,hc',-⟩:=Zn.raise_mode fr [{v,recovered:=false}]
   exact hm' c (by rw[<-e4];exact hc')
  | stuck x=>cases h0
  | unsupported x=>cases x<;>first|exact(hok:False).elim|cases h0
  | _=>exact(hok:False).elim
end
section
open Zn (ext low kk Gr K0 Nx a0y L9 Z8 a0M a1k xx Full a2m ret_go)
variable{S:Sit}{P:Program}{X:Tmp->Prop}
theorem c1d{α:Type}{Q:Value->Value->Prop}(f f':α->Sem Value)(l:List α)(h:∀x∈l,Im S P Q (f x) (f' x)):Im S P (LR Q) (l.mapM f) (l.mapM f'):=by
 induction l with
 | nil=>exact Im.pure .nil
 | cons x l ih=>
  rw[List.mapM_cons,List.mapM_cons];refine Im.bind (h x (by simp)) ?_;intro a a' ha;refine Im.bind (ih fun y hy=>h y (by simp[hy])) ?_;intro b b' hb;exact Im.pure (.cons ha hb)
theorem LR.array{l l':List Value}(h:LR (VR S) l l'):AR S l.toArray l'.toArray:=by
 induction h with
 | nil=>exact AR.nil
 | cons hx _ ih=>
  rename_i a b l k _;have e:∀(x:Value)(l:List Value),(x::l).toArray=#[x]++l.toArray:=fun x l=>by simp
  rw[e a,e b];exact(AR.one hx).append ih
theorem b3K{fn:Func}{tmps tmps':Array Value}(h:∀t,VR S (tmps.getD t undef) (tmps'.getD t undef)):Im S P (VR S) (results fn tmps) (results fn tmps'):=by
 unfold results;refine Im.bind (R:=AR S) ?_ ?_
 ·rw[Array.mapM_eq_mapM_toList,Array.mapM_eq_mapM_toList];show Im S P _ (Functor.map List.toArray _) (Functor.map List.toArray _);rw[map_eq_pure_bind,map_eq_pure_bind];refine Im.bind (c1d (Q:=VR S) _ _ _ fun r _=>?_) ?_
  ·cases r with
   | tmp t=>exact Im.pure (h t)
   | cell a t=>
    refine Im.bind (a9Y (h a)) ?_;rintro a _ ⟨ha,rfl⟩;exact a7X _ ha
  ·intro l l' hl;exact Im.pure hl.array
 ·intro vs vs' hv;by_cases h1:vs.size=1
  ·have h2:vs'.size=1:=by rw[<-hv.size];exact h1
   rw[dif_pos h1,dif_pos h2];exact Im.pure (hv.at_ 0 (by omega) (by omega))
  ·have h2:¬vs'.size=1:=by rw[<-hv.size];exact h1
   rw[dif_neg h1,dif_neg h2];exact Im.pure (VR.tuple' hv)
section
variable{Z:Zn.Zone}{Sh:Nat->Prop}{Xu:Tmp->Prop}{fr fr2:Frame}{l l2:List Frame}{w w2:World}{fr':Frame}{l':List Frame}{w':World}{es:Array Event}
theorem Fol.congr{s s':List Item->List Frame->GStep}(h:∀κ cs,s κ cs=s' κ cs)(k:Fol P S X w2 s' fr' l' w'):Fol P S X w2 s fr' l' w':=by
 have:s=s':=by funext κ cs;exact h κ cs
 rw[this];exact k
theorem turn_bi(hP:PQB S P)(hc:Cur S w)(hLo:a4O S P X l l2)(hW:WR S w w2){fr0 fr20:Frame}(hF:FrR S P X l fr0 fr20)(h0:GStep.go {frame:=fr0,callers:=l,status:=.running,dying:=none} w #[]=.go (Gr fr' l' [] []) w' es){s:List Item->List Frame->GStep}
 (h:∀κ cs,s κ cs=.go (Gr fr20 l2 κ cs) w2 #[]):Fol P S X w2 s fr' l' w':=by
 rw[a3L] at h0;injection h0 with h1 h2 h3;injection h1 with h4 h5;subst h4;subst h5;subst h2;exact⟨S,fr20,l2,w2,#[],h,.refl S,hP,hc,hF,hLo,hW,⟨Nat.le_refl _,rfl,rfl,rfl,fun _ _ _=>rfl,fun b h k=>.inl ⟨k,h⟩,by simp,fun b h=>.inl h⟩⟩
theorem c1e(hPk:∀Z',Zn.Le Z Z'->Zn.PQK Z' P)(hI:Zn.Inv Z Sh Xu fr l w)(hP:PQB S P)(hc:Cur S w)(hF:FrR S P X l fr fr2)(hLo:a4O S P X l l2)(hW:WR S w w2)
 (h1:P.globals.size<=w.heap.size)(h2:P.globals.size<=w2.heap.size)(ht:w2.tape=w.tape)(hd:w2.drawn=w.drawn)
 (hcode:∀f fn c,S.F f->P.funcs[f]?=some fn->fn.body=some c->CodeB S P Full c)(hm:fr.mode=.run)(hm':∀c,fr'.mode≠.panicking c)
 (hx:∀κ cs,stepG.exec P true true (ext fr (kk l κ)) (low l κ cs) none w=.go (Gr fr' l' κ cs) w' es):
 Fol P S X w2 (fun κ cs=>stepG.exec P false true (ext fr2 (kk l2 κ)) (low l2 κ cs) none w2) fr' l' w':=by
 have hF0:=hF;have h0:=hx [] [];have hg:=a3L fr l;unfold Gr at hg;injection hg with hg1 hg2;rw[hg1,hg2] at h0;obtain⟨fn,tmps,todo,defers,mode,kind,roundOf⟩:=fr;obtain⟨fn',tmps',todo',defers',mode',kind',roundOf'⟩:=fr2;obtain⟨f1,f2,f3,f4,f5,f6,f7,f8,f9,f10,f11,f12,f13⟩:=hF;dsimp only at f1 f2 f3 f4 f5 f6 f7 f8 f9 f10 f11 f12 hm;subst f1;subst f4;subst f8;subst f9;subst hm;subst f6;have e1:=fun κ:List Item=>hLo.kk κ;have leave:∀{td:List Item},(∀x∈td,a1u S P (xx l X) x)->
  GStep.go {frame:={fn:=fn',tmps:=tmps,todo:=td,defers:=defers,mode:=.returning,kind:=kind},callers:=l,status:=.running,dying:=none} w #[]=.go (Gr fr' l' [] []) w' es->
  ∀{s:List Item->List Frame->GStep},(∀κ cs,s κ cs=.go (Gr {fn:=fn',tmps:=tmps',todo:=td,defers:=defers',mode:=.returning,kind:=kind'} l2 κ cs) w2 #[])->Fol P S X w2 s fr' l' w':=fun{td}hk h0{s}h=>
  turn_bi (fr0:={fn:=fn',tmps:=tmps,todo:=td,defers:=defers,mode:=.returning,kind:=kind}) (fr20:={fn:=fn',tmps:=tmps',todo:=td,defers:=defers',mode:=.returning,kind:=kind'}) hP hc hLo hW ⟨rfl,f2,f3,rfl,hk,rfl,.inr rfl,rfl,rfl,f10,f11,f12,f13⟩ h0 h
 have hbot:∀κ,l≠[]->kk l2 κ = []:=fun κ hne=>by
  rw[e1];cases l with
  | nil=>exact absurd rfl hne
  | cons=>rfl
 cases todo' with
 | nil=>
  by_cases hl:l=[]
  ·subst hl;have:=hx K0 [];cases this
  ·refine leave (td:=[]) (by simp) h0 fun κ cs=>?_;rw[hbot κ hl];unfold Gr;rw[hbot κ hl]
   rfl
 | cons x k=>
  have hk:∀y∈k,a1u S P (xx l X) y:=fun y hy=>f5 y (by simp[hy]);have hx1:=f5 x (by simp);have tgo:∀{td:List Item},(∀x∈td,a1u S P (xx l X) x)->GStep.go {frame:={fn:=fn',tmps:=tmps,todo:=td,defers:=defers,mode:=.run,kind:=kind},callers:=l,status:=.running,dying:=none} w #[]=.go (Gr fr' l' [] []) w' es->
   ∀{s:List Item->List Frame->GStep},(∀κ cs,s κ cs=.go (Gr {fn:=fn',tmps:=tmps',todo:=td,defers:=defers',mode:=.run,kind:=kind'} l2 κ cs) w2 #[])->Fol P S X w2 s fr' l' w':=fun{td}hk h0{s}h=>
   turn_bi (fr0:={fn:=fn',tmps:=tmps,todo:=td,defers:=defers,mode:=.run,kind:=kind}) (fr20:={fn:=fn',tmps:=tmps',todo:=td,defers:=defers',mode:=.run,kind:=kind'}) hP hc hLo hW ⟨rfl,f2,f3,rfl,hk,rfl,.inl rfl,rfl,rfl,f10,f11,f12,f13⟩ h0 h
  have c1:∀{a:Item},a1u S P (xx l X) a->∀y∈a::k,a1u S P (xx l X) y:=fun ha y hy=>by
   rcases List.mem_cons.1 hy with rfl|hy
   ·exact ha
   ·exact hk y hy
  have c2:∀{a b:Item},a1u S P (xx l X) a->a1u S P (xx l X) b->∀y∈a::b::k,a1u S P (xx l X) y:=fun ha hb y hy=>by
   rcases List.mem_cons.1 hy with rfl|hy
   ·exact ha
   ·exact c1 hb y hy
  cases hx1 with
  | inBlock id=>exact tgo hk h0 fun _ _=>rfl
  | inLoop c h=>exact tgo (c2 (.code c h) (.inLoop c h)) h0 fun _ _=>rfl
  | inRegion ops is ho=>
   cases is with
   | nil=>exact tgo hk h0 fun _ _=>rfl
   | cons i rest=>
    have ey:yielded ops tmps'=yielded ops tmps:=b3J hF0 fun o h=>(ho o h).2.2;by_cases hw:((ops[i]?).map (Region.wanted · (yielded ops tmps))).getD false=true
    ·have hw2:((ops[i]?).map (Region.wanted · (yielded ops tmps'))).getD false=true:=by rw[ey];exact hw
     cases hoi:ops[i]? with
     | none=>rw[hoi] at hw;cases hw
     | some o=>
      have hob:=ho o (Array.mem_of_getElem? hoi);have hzi:=hI.fr.1.todo (.inRegion ops (i::rest)) (by simp);have hop:Zn.OpP (Zn.Zf Z Sh w.heap.size) o.op/\Zn.OpU (xx l Xu) o.op:=by
       cases hzi with
       | inRegion _ _ h hu=>exact⟨h o (Array.mem_of_getElem? hoi),hu o (Array.mem_of_getElem? hoi)⟩
      have hh:(∃a u,(execOp (Frame.eval ⟨fn',tmps,.inRegion ops (i::rest)::k,defers,.run,kind,none⟩) o).run P w=.ok a u)\/∃x u,(execOp (Frame.eval ⟨fn',tmps,.inRegion ops (i::rest)::k,defers,.run,kind,none⟩) o).run P w=.halt x u/\Zn.HaltOK x:=by
       rcases Zn.both (fun Z' hZ=>Zn.sf_execOp (hPk Z' (hI.W.le.trans hZ)) (hop.1.mono hZ).1 fun x hx=>Zn.oprP_eval (hI.fr.1.mono hZ) x ((hop.1.mono hZ).2 x hx) fun t e=>hop.2 x hx t e) hI.W with⟨a,u,es,k1,ha,hT,-⟩|⟨x,u,es,k1,ha,hT,hok,-⟩
       ·have e:=hT w.tape w.drawn fun _ _ _=>rfl;rw[Zn.tp_self] at e;exact .inl ⟨a,_,by rw[<-Sem.runT_fst P _ w #[],e]⟩
       ·have e:=hT w.tape w.drawn fun _ _ _=>rfl;rw[Zn.tp_self] at e;exact .inr ⟨x,_,by rw[<-Sem.runT_fst P _ w #[],e],hok⟩
      have hnd:∀c,o.op≠.defer c:=fun c e=>by have:=hob.1;rw[e] at this;exact this
      have h0':stepG.apply P true ⟨fn',tmps,.inRegion ops (i::rest)::k,defers,.run,kind,none⟩ l none (execOp (Frame.eval ⟨fn',tmps,.inRegion ops (i::rest)::k,defers,.run,kind,none⟩) o) w=.go (Gr fr' l' [] []) w' es:=by
       rw[<-h0];unfold stepG.exec;dsimp only;rw[if_pos hw];unfold stepG.oper;simp only[show(Frame.oper? ⟨fn',tmps,.inRegion ops (i::rest)::k,defers,.run,kind,none⟩)=some o from hoi]
      refine Fol.congr (fun κ cs=>?_) (b8x hP hc hF0 hLo hW h1 h2 ht hd hcode rfl rfl hm' (s2:=execOp (Frame.eval ⟨fn',tmps',.inRegion ops (i::rest)::k,defers',.run,kind',none⟩) o) (fun S' hL hP'=>b6g hP' (hob.1.mono hL) (fun x hx=>(hF0.mono hL).eval ((hob.2.1 x hx).1.mono hL) (hob.2.1 x hx).2) (fun v=>⟨rfl,rfl⟩) fun f=>⟨rfl,rfl⟩) hh h0');have e3:=Z8 ⟨fn',tmps',.inRegion ops (i::rest)::k,defers',.run,kind',none⟩ (kk l2 κ);rw[<-e3];show stepG.exec P false true ⟨fn',tmps',.inRegion ops (i::rest)::(k++kk l2 κ),defers',.run,kind',none⟩ (low l2 κ cs) none w2=_;unfold stepG.exec;dsimp only;rw[if_pos hw2];unfold stepG.oper;simp only[show(Frame.oper? ⟨fn',tmps',.inRegion ops (i::rest)::(k++kk l2 κ),defers',.run,kind',none⟩)=some o from hoi];rfl
    ·have hw2:¬((ops[i]?).map (Region.wanted · (yielded ops tmps'))).getD false=true:=by rw[ey];exact hw
     have h0':GStep.go {frame:=Frame.finish ⟨fn',tmps,.inRegion ops (i::rest)::k,defers,.run,kind,none⟩ undef,callers:=l,status:=.running,dying:=none} w #[]=.go (Gr fr' l' [] []) w' es:=by
      rw[<-h0];unfold stepG.exec;dsimp only;rw[if_neg hw]
     refine turn_bi hP hc hLo hW (hF0.finish rfl a2I) h0' fun κ cs=>?_;unfold Gr;rw[<-L9 (by simp)];show stepG.exec P false true ⟨fn',tmps',.inRegion ops (i::rest)::(k++kk l2 κ),defers',.run,kind',none⟩ (low l2 κ cs) none w2=_;unfold stepG.exec;dsimp only;rw[if_neg hw2]
     rfl
  | code c h=>
   cases c with
   | skip=>exact tgo hk h0 fun _ _=>rfl
   | label _=>exact tgo hk h0 fun _ _=>rfl
   | seq a b=>exact tgo (c2 (.code _ h.1) (.code _ h.2)) h0 fun _ _=>rfl
   | block id b=>exact tgo (c2 (.code b h) (.inBlock id)) h0 fun _ _=>rfl
   | loop b=>exact tgo (c2 (.code b h) (.inLoop b h)) h0 fun _ _=>rfl
   | cond c a b=>
    have hv:=hF0.eval h.1.1 h.1.2;have e3:=fun κ=>Z8 ⟨fn',tmps',.code (.cond c a b)::k,defers',.run,kind',none⟩ κ;unfold stepG.exec at h0;dsimp only at h0;generalize hv1:Frame.eval ⟨fn',tmps,.code (.cond c a b)::k,defers,.run,kind,none⟩ c=v at hv h0;generalize hv2:Frame.eval ⟨fn',tmps',.code (.cond c a b)::k,defers',.run,kind',none⟩ c=v2 at hv
    cases hv with
    | bool t=>
     refine tgo (td:=.code (if t then a else b)::k) (c1 (.code _ ?_)) h0 fun κ cs=>?_
     ·split
      ·exact h.2.1
      ·exact h.2.2
     ·have e4:Frame.eval ⟨fn',tmps',.code (.cond c a b)::(k++kk l2 κ),defers',.run,kind',none⟩ c=.bool t:=by rw[<-hv2];exact congrFun (e3 (kk l2 κ)) c
      show stepG.exec P false true ⟨fn',tmps',.code (.cond c a b)::(k++kk l2 κ),defers',.run,kind',none⟩ (low l2 κ cs) none w2=_;unfold stepG.exec;dsimp only;rw[e4]
      rfl
    | _=>cases h0
   | exit id=>
    unfold stepG.exec at h0;dsimp only at h0
    cases e:exitTo id k with
    | none=>rw[e] at h0;cases h0
    | some k'=>
     rw[e] at h0;refine tgo (td:=k') (fun y hy=>hk y (a1k e y hy)) h0 fun κ cs=>?_;show stepG.exec P false true ⟨fn',tmps',.code (.exit id)::(k++kk l2 κ),defers',.run,kind',none⟩ (low l2 κ cs) none w2=_;unfold stepG.exec;dsimp only;rw[a0M _ e]
     rfl
   | ret=>exact leave f5 h0 fun κ cs=>rfl
   | region id ops draw=>
    cases draw with
    | false=>exact tgo (c1 (.inRegion _ _ h)) h0 fun _ _=>rfl
    | true=>
     have hr:∀w:World,(choose (.order fn' id)).run P w=.ok (Question.cut (.order fn' id) (w.tape w.drawn (.order fn' id))) {w with drawn:=w.drawn+1}:=fun w=>rfl;unfold stepG.exec at h0;dsimp only[Bool.not_true] at h0;rw[if_neg (by simp),hr,a3L] at h0;dsimp only at h0;injection h0 with g1 g2 g3;injection g1 with g4 g5;subst g4;subst g5;subst g2;refine⟨S,⟨fn',tmps',.inRegion ops (Region.schedule (P.follows .mixedOrders) ops (Question.cut (.order fn' id) (w.tape w.drawn (.order fn' id))))::k,defers',.run,kind',none⟩,l2,{w2 with drawn:=w2.drawn+1},#[],fun κ cs=>?_,.refl S,hP,hc,
      ⟨rfl,f2,f3,rfl,c1 (.inRegion _ _ h),rfl,.inl rfl,rfl,rfl,f10,f11,f12,f13⟩,hLo,hW.draw _ _,⟨Nat.le_refl _,rfl,rfl,rfl,fun _ _ _=>rfl,fun b h k=>.inl ⟨k,h⟩,by simp,fun b h=>.inl h⟩⟩
     show stepG.exec P false true ⟨fn',tmps',.code (.region id ops true)::(k++kk l2 κ),defers',.run,kind',none⟩ (low l2 κ cs) none w2=_;unfold stepG.exec;dsimp only[Bool.not_true];rw[if_neg (by simp),hr,ht,hd]
     rfl
   | _=>exact(h:False).elim
theorem b6h(hI:Zn.Inv Z Sh Xu fr l w)(hPk:∀Z',Zn.Le Z Z'->Zn.PQK Z' P)(hP:PQB S P)(hc:Cur S w)(hF:FrR S P X l fr fr2)(hLo:a4O S P X l l2)(hW:WR S w w2)
 (h1:P.globals.size<=w.heap.size)(h2:P.globals.size<=w2.heap.size)(ht:w2.tape=w.tape)(hd:w2.drawn=w.drawn)(hm:fr.mode=.returning)
 (hx:∀κ cs,unwind P true (ext fr (kk l κ)) (low l κ cs) none w=.go (Gr fr' l' κ cs) w' es):
 Fol P S X w2 (fun κ cs=>unwind P false (ext fr2 (kk l2 κ)) (low l2 κ cs) none w2) fr' l' w':=by
 have em:∀k,(ext fr k).mode=.returning:=fun _=>hm;have em2:∀k,(ext fr2 k).mode=.returning:=fun _=>hF.mode.trans hm;have ed:∀k,(ext fr k).defers=[]:=fun _=>hF.ld;have retGo:∀(main:Bool){f c:Frame}{l:List Frame}(hk:f.kind=.normal)(hc:c.todo≠[])(v:Value)(es:Array Event)(κ:List Item)(cs:List Frame)(w:World),
  GStep.after es (doReturn P main f (low (c::l) κ cs) none v w)=.go (Gr (c.finish v) l κ cs) w (es++#[]):=fun main f c l hk hc v es κ cs w=>by
  unfold doReturn;rw[hk];show GStep.after es (GStep.go {frame:=(ext c (kk l κ)).finish v,callers:=low l κ cs,status:=.running,dying:=none} w)=_;rw[L9 hc];rfl
 have retGo0:∀(main:Bool){f c:Frame}{l:List Frame}(hk:f.kind=.normal)(hc:c.todo≠[])(v:Value)(κ:List Item)(cs:List Frame)(w:World),
  doReturn P main f (low (c::l) κ cs) none v w=.go (Gr (c.finish v) l κ cs) w #[]:=fun main f c l hk hc v κ cs w=>by
  unfold doReturn;rw[hk];show GStep.go {frame:=(ext c (kk l κ)).finish v,callers:=low l κ cs,status:=.running,dying:=none} w=_;rw[L9 hc];rfl
 cases hLo with
 | nil=>
  exfalso;have hlen:∀(l:List Frame)κ(cs:List Frame),(low l κ cs).length=l.length+cs.length:=fun l κ cs=>by
   induction l with
   | nil=>simp[low]
   | cons x l ih=>simp only[low,List.length_cons,ih];omega
  have h0:=hx [] [Zn.c0];have hret:∀(v:Value)(u:World)(es0:Array Event),GStep.after es0 (doReturn P true (ext fr (kk [] [])) (low [] [] [Zn.c0]) none v u)≠.go (Gr fr' l' [] [Zn.c0]) w' es:=fun v u es0 e=>by
   unfold doReturn low at e;have key:∀(f:Frame),GStep.after es0 (GStep.go {frame:=f,callers:=[],status:=.running,dying:=none} u)≠.go (Gr fr' l' [] [Zn.c0]) w' es:=fun f e=>by
    injection e with e1 e2 e3;have:=congrArg (fun g:Goroutine=>g.callers.length) e1;simp only[Gr,hlen,List.length_cons,List.length_nil] at this;omega
   cases hk:(ext fr (kk [] [])).kind<;>(rw[hk] at e;exact key _ e)
  have hret0:∀(v:Value)(u:World),doReturn P true (ext fr (kk [] [])) (low [] [] [Zn.c0]) none v u≠.go (Gr fr' l' [] [Zn.c0]) w' es:=fun v u e=>by
   unfold doReturn low at e;have key:∀(f:Frame),GStep.go {frame:=f,callers:=[],status:=.running,dying:=none} u≠.go (Gr fr' l' [] [Zn.c0]) w' es:=fun f e=>by
    injection e with e1 e2 e3;have:=congrArg (fun g:Goroutine=>g.callers.length) e1;simp only[Gr,hlen,List.length_cons,List.length_nil] at this;omega
   cases hk:(ext fr (kk [] [])).kind<;>(rw[hk] at e;exact key _ e)
  unfold unwind at h0;rw[ed,em] at h0;dsimp only at h0
  cases hfn:P.funcs[(ext fr (kk [] [])).fn]? with
  | none=>rw[hfn] at h0;exact hret0 _ _ h0
  | some fn=>
   rw[hfn] at h0;dsimp only at h0
   cases hr:(results fn (ext fr (kk [] [])).tmps).runT P w #[] with
   | mk r es0=>
   rw[hr] at h0
   cases r with
   | ok v u=>exact hret _ _ _ h0
   | halt x u=>cases x<;>cases h0
 | cons c c2 l0 k0 hcR hcm hcn hl0=>
  obtain⟨u1,u2,u3,u4⟩:=hF.up (by simp);have ed2:∀k,(ext fr2 k).defers=[]:=fun _=>u4;have hvr:∀t,VR S (fr.tmps.getD t undef) (fr2.tmps.getD t undef):=fun t=>hF.tmps t trivial;have hcn2:c2.todo≠[]:=by rw[hcR.todo];exact hcn
  cases hfn:P.funcs[fr.fn]? with
  | none=>
   have h0:=hx [] [];unfold unwind at h0;rw[ed,em] at h0;dsimp only at h0;rw[show(ext fr (kk (c::l0) [])).fn=fr.fn from rfl,hfn] at h0;dsimp only at h0;rw[retGo0 true (f:=ext fr (kk (c::l0) [])) u1 hcn] at h0;injection h0 with g1 g2 g3;rw[a3L,a3L] at g1;injection g1 with g4 g5;subst g4;subst g5;subst g2;refine⟨S,c2.finish (fr2.tmps.getD 0 undef),k0,w2,#[],fun κ cs=>?_,.refl S,hP,hc,hcR.finish hcm (hvr 0),hl0,hW,⟨Nat.le_refl _,rfl,rfl,rfl,fun _ _ _=>rfl,fun b h k=>.inl ⟨k,h⟩,by simp,fun b h=>.inl h⟩⟩;show unwind P false (ext fr2 (kk (c2::k0) κ)) (low (c2::k0) κ cs) none w2=_;unfold unwind;rw[ed2,em2];dsimp only;rw[show(ext fr2 (kk (c2::k0) κ)).fn=fr2.fn from rfl,hF.fn,hfn];dsimp only;rw[retGo0 false (f:=ext fr2 (kk (c2::k0) κ)) u2 hcn2]
   rfl
  | some fn=>
   have h0:=hx [] [];unfold unwind at h0;rw[ed,em] at h0;dsimp only at h0;rw[show(ext fr (kk (c::l0) [])).fn=fr.fn from rfl,hfn] at h0;dsimp only at h0;rw[show(ext fr (kk (c::l0) [])).tmps=fr.tmps from rfl] at h0
   cases hr:(results fn fr.tmps).runT P w #[] with
   | mk r es0=>
   rw[hr] at h0;have hr1:(results fn fr.tmps).run P w=r:=by rw[<-Sem.runT_fst P _ w #[],hr]
   cases r with
   | halt x u=>cases x<;>cases h0
   | ok v u=>
    dsimp only at h0;rw[retGo true (f:=ext fr (kk (c::l0) [])) u1 hcn] at h0;injection h0 with g1 g2 g3;rw[a3L,a3L] at g1;injection g1 with g4 g5;subst g4;subst g5;subst g2;obtain⟨S',b,u2',es2,g1,g2,g3,g4,g5,g6,g7,g8,g9,g10,g11,g12,g13,g14,g15,g16,g17⟩:=both hP hc hW h1 h2 ht hd (R:=fun S=>VR S) (fun S' hL hP'=>b3K (fn:=fn) (tmps':=fr2.tmps) fun t=>(hvr t).mono hL) hr1;refine⟨S',c2.finish b,k0,u2',seen P fr2.fn es2++#[],fun κ cs=>?_,g2,g3,g4,(hcR.mono g2).finish hcm g5,hl0.mono g2,g6,⟨g8,g9,g12,g13,g15,g16,fun e he=>g14 e (by rw[Array.append_empty] at he;exact Go.Conc.mem_seen he),g17⟩⟩;show unwind P false (ext fr2 (kk (c2::k0) κ)) (low (c2::k0) κ cs) none w2=_;unfold unwind;rw[ed2,em2];dsimp only;rw[show(ext fr2 (kk (c2::k0) κ)).fn=fr2.fn from rfl,hF.fn,hfn];dsimp only;rw[show(ext fr2 (kk (c2::k0) κ)).tmps=fr2.tmps from rfl,g1];dsimp only;rw[retGo false (f:=ext fr2 (kk (c2::k0) κ)) u2 hcn2]
theorem c1f(hPk:∀Z',Zn.Le Z Z'->Zn.PQK Z' P)(hI:Zn.Inv Z Sh Xu fr l w)(hP:PQB S P)(hc:Cur S w)(hF:FrR S P X l fr fr2)(hLo:a4O S P X l l2)(hW:WR S w w2)
 (h1:P.globals.size<=w.heap.size)(h2:P.globals.size<=w2.heap.size)(ht:w2.tape=w.tape)(hd:w2.drawn=w.drawn)
 (hcode:∀f fn c,S.F f->P.funcs[f]?=some fn->fn.body=some c->CodeB S P Full c)(hm':∀c,fr'.mode≠.panicking c)(hx:Nx P fr l w fr' l' w' es):
 Fol P S X w2 (fun κ cs=>stepG P false (Gr fr2 l2 κ cs) w2) fr' l' w':=by
 rcases hF.modes with hm|hm
 ·refine Fol.congr (fun κ cs=>?_) (c1e (es:=es) hPk hI hP hc hF hLo hW h1 h2 ht hd hcode hm hm' fun κ cs=>?_)
  ·unfold stepG Gr;dsimp only;rw[show(ext fr2 (kk l2 κ)).mode=.run from hF.mode.trans hm]
  ·rw[<-hx κ cs];unfold stepG Gr;dsimp only;rw[show(ext fr (kk l κ)).mode=.run from hm]
 ·refine Fol.congr (fun κ cs=>?_) (b6h (es:=es) hI hPk hP hc hF hLo hW h1 h2 ht hd hm fun κ cs=>?_)
  ·unfold stepG Gr;dsimp only;rw[show(ext fr2 (kk l2 κ)).mode=.returning from hF.mode.trans hm]
  ·rw[<-hx κ cs];unfold stepG Gr;dsimp only;rw[show(ext fr (kk l κ)).mode=.returning from hm]
end
end
section
open Zn (ext low kk Gr K0 Nx Full)
open Mc (Wk Tr)
variable{S:Sit}{P:Program}{X:Tmp->Prop}
structure Rl(Ro:Nat->Prop)(O:Nat->Prop)(w w':World):Prop where
 size:w.heap.size<=w'.heap.size
 ro:∀b,Ro b->w'.heap[b]?=w.heap[b]?
 own:∀b,O b->w'.heap[b]?=w.heap[b]?
def EvB(Ro O:Nat->Prop)(B:Nat)(e:Event):Prop:=
 match e.loc with
 | .cell a=>e.sync=false/\(O a.block\/(Ro a.block/\e.write=false))/\a.block<B
 | .obj r=>e.sync=false/\(O r\/Ro r)/\e.write=false/\r<B
 | .mark m=>MarkOK m
 | _=>False
structure Gd(Ro:Nat->Prop)(O O':Nat->Prop)(w w':World)(es:Array Event):Prop where
 size:w.heap.size<=w'.heap.size
 tape:w'.tape=w.tape
 os:w'.os=w.os
 output:w'.output=w.output
 old:∀b,b<w.heap.size->¬O b->w'.heap[b]?=w.heap[b]?
 more:∀b,O b->O' b
 new:∀b,O' b->O b\/w.heap.size<=b
 in_:∀b,O' b->b<w'.heap.size
 ev:∀e∈es,EvB Ro O' w'.heap.size e
def Img(S:Sit)(O:Nat->Prop):Prop:=∀b,O b<->∃a,S.D a/\S.W a/\S.ren a=b
def End(P:Program)(X:Tmp->Prop)(A:Frame->World->Prop)(Ro:Nat->Prop)(κ:List Item)(cs:List Frame)(S0:Sit)(O:Nat->Prop)(g:Goroutine)(w2:World):Prop:=
 ∃S fr fr2 w,SLe S0 S/\(∀b,S.D b->S0.D b\/S.W b)/\g=Gr fr2 [] κ cs/\FrR S P X [] fr fr2/\WR S w w2/\Cur S w/\Img S O/\(∀a,S.D a->Ro (S.ren a)\/O (S.ren a))/\A (ext fr K0) w
theorem WR.rely{Ro O:Nat->Prop}{w w2 w3:World}(h:WR S w w2)(hc:Cur S w)(hro:∀a,S.D a->Ro (S.ren a)\/O (S.ren a))(hr:Rl Ro O w2 w3):WR S w w3:=by
 refine⟨h.inj,fun b hb hD=>?_,fun b hb hlt=>?_,h.ro⟩
 ·have:=hc b hD;omega
 ·obtain⟨o,o',h1,h2,h3⟩:=h.obj b hb hlt;refine⟨o,o',h1,?_,h3⟩;rcases hro b hb with hx|hx
  ·rw[hr.ro _ hx];exact h2
  ·rw[hr.own _ hx];exact h2
theorem WR.tp{w w2:World}(h:WR S w w2)(τ:Nat->Question->Nat)(p:Nat):WR S (Zn.tp w τ p) w2:=⟨h.inj,h.fresh,h.obj,h.ro⟩
theorem c3e{Z:Zn.Zone}{Sh:Nat->Prop}{Xu:Tmp->Prop}{A:Frame->World->Prop}(Ro:Nat->Prop)(S0:Sit)(hPk:∀Z',Zn.Le Z Z'->Zn.PQK Z' P)(hA:∀F w τ p,A F w->A F (Zn.tp w τ p))(κ:List Item)(cs:List Frame)
 {fr:Frame}{l:List Frame}{w:World}(hG:Zn.Goe P Z Sh Xu A fr l w):
 ∀(S:Sit)(fr2:Frame)(l2:List Frame)(w2:World)(O:Nat->Prop),SLe S0 S->(∀b,S.D b->S0.D b\/S.W b)->(∀f fn c,S.F f->P.funcs[f]?=some fn->fn.body=some c->CodeB S P Full c)->PQB S P->Cur S w->FrR S P X l fr fr2->a4O S P X l l2->WR S w w2->Img S O->(∀a,S.D a->Ro (S.ren a)\/O (S.ren a))->
  P.globals.size<=w.heap.size->P.globals.size<=w2.heap.size->∃T,Wk P false (Rl Ro) (Gd Ro) (End P X A Ro κ cs S0) T O (Gr fr2 l2 κ cs) w2:=by
 induction hG with
 | stop fr w hI τ p hAA=>
  intro S fr2 l2 w2 O hle hdw _ hP hc hF hLo hW hImg hro _ _;cases hLo;refine⟨.leaf,Wk.stop fun w3 hr=>⟨S,fr,fr2,w,hle,hdw,rfl,hF,hW.rely hc hro hr,hc,hImg,hro,?_⟩⟩;have:=hA _ _ w.tape w.drawn hAA;rw[Zn.tp_tp,Zn.tp_self] at this
  exact this
 | step fr l w hI F L W E h hs he k ih=>
  intro S fr2 l2 w2 O hle hdw hcode hP hc hF hLo hW hImg hro g1 g2;refine Wk.step rfl fun w3 hr=>?_;have hW3:=hW.rely hc hro hr;have hIk:=(k w3.tape w3.drawn).inv;have hm':∀c,(F w3.tape w3.drawn).mode≠.panicking c:=fun c e=>by
   rcases hIk.fr.1.mode with h|h<;>(rw[h] at e;cases e)
  obtain⟨S',fr3,l3,w4,es,e1,e2,e3,e4,e5,e6,e7,e8⟩:=c1f (P:=P) (S:=S) (X:=X) hPk (Zn.Inv.tp hI w3.tape w3.drawn) hP (w2:=w3) hc hF hLo (hW3.tp _ _) g1 (Nat.le_trans g2 hr.size) rfl rfl hcode hm' (h w3.tape w3.drawn)
  let O':Nat->Prop:=fun b=>∃a,S'.D a/\S'.W a/\S'.ren a=b
  have hOO:∀b,O b->O' b:=fun b hb=>by
   obtain⟨a,h1,h2,h3⟩:=(hImg b).1 hb;exact⟨a,e2.D a h1,e2.W a h2,(e2.ren a h1).trans h3⟩
  have hro':∀a,S'.D a->Ro (S'.ren a)\/O' (S'.ren a):=fun a ha=>by
   rcases e8.dw a ha with h1|h1
   ·rw[e2.ren a h1];exact(hro a h1).imp id (hOO _)
   ·exact .inr ⟨a,ha,h1,rfl⟩
  obtain⟨T,hT⟩:=ih w3.tape w3.drawn S' fr3 l3 w4 O' (hle.trans e2) (fun b hb=>(e8.dw b hb).elim (fun h=>(hdw b h).imp id (e2.W b)) .inr) (fun f fn c hf h1 h2=>(hcode f fn c (e2.F▸hf) h1 h2).mono e2) e3 e4 e5 e6 e7 (fun b=>Iff.rfl) hro' (Nat.le_trans g1 (hs _ _)) (Nat.le_trans (Nat.le_trans g2 hr.size) e8.size);refine⟨_,w4,es,O',T,e1 κ cs,⟨e8.size,e8.tape,e8.os,e8.output,fun b hb hn=>e8.old b hb fun a h1 h2 h3=>hn ((hImg b).2 ⟨a,h1,h2,h3⟩),hOO,fun b hb=>?_,fun b hb=>?_,fun e he=>?_⟩,hT⟩
  ·obtain⟨a,h1,h2,rfl⟩:=hb;rcases e8.new a h1 h2 with⟨h3,h4⟩|h3
   ·exact .inl ((hImg _).2 ⟨a,h4,h3,(e2.ren a h4).symm⟩)
   ·exact .inr h3
  ·obtain⟨a,h1,h2,rfl⟩:=hb;obtain⟨_,_,_,h3,_⟩:=e7.obj a h1 (e4 a h1);exact lt_of_some h3
  ·have:=e8.ev e he;obtain⟨loc,wr,sy⟩:=e
   cases loc with
   | cell a=>
    obtain⟨h1,⟨b,h2,h3,h4⟩,h5⟩:=this;refine⟨h1,?_,h5⟩
    cases wr with
    | true=>exact .inl ⟨b,h2,h4 rfl,h3⟩
    | false=>exact(h3▸hro' b h2).symm.imp id fun h=>⟨h,rfl⟩
   | obj r=>
    obtain⟨h1,⟨b,h2,h3⟩,h4,h5⟩:=this
    exact⟨h1,(h3▸hro' b h2).symm,h4,h5⟩
   | mark m=>exact this
   | _=>exact(this:False).elim
end
end Go.Bi
namespace Go.Mw
section
open Go.Conc
open Mc
set_option linter.unusedSectionVars false
theorem b4T{γ:Type}{P:Program}{main:Bool}{R R':γ->World->World->Prop}{D D':γ->γ->World->World->Array Event->Prop}{Stop Stop':γ->Goroutine->World->Prop}(I:γ->World->Prop)
 (hI:∀x w w',I x w->R' x w w'->I x w')(hR:∀x w w',I x w->R' x w w'->R x w w')(hD:∀x x' w w' es,I x w->D x x' w w' es->D' x x' w w' es/\I x' w')(hS:∀x g w,I x w->Stop x g w->Stop' x g w):
 ∀{T:Tr}{x:γ}{g:Goroutine}{w:World},I x w->Wk P main R D Stop T x g w->Wk P main R' D' Stop' T x g w:=by
 intro T
 induction T with
 | leaf=>exact fun hi h w₁ r=>hS _ _ _ (hI _ _ _ hi r) (h w₁ (hR _ _ _ hi r))
 | node f ih=>
  intro x g w hi h;rcases h with h|⟨hs,h⟩
  ·exact .inl fun w₁ r=>hS _ _ _ (hI _ _ _ hi r) (h w₁ (hR _ _ _ hi r))
  ·refine .inr ⟨hs,fun w₁ r=>?_⟩;obtain⟨g',w',es,x',h1,h2,h3⟩:=h w₁ (hR _ _ _ hi r);obtain⟨h4,h5⟩:=hD _ _ _ _ _ (hI _ _ _ hi r) h2;exact⟨g',w',es,x',h1,h4,ih _ h5 h3⟩
variable{Z:Pz}{i bx:Nat}{O:Nat->Prop}{Stop:(Nat->Prop)->Goroutine->World->Prop}{b:Frame}{a:Act}{k:List Item}{cs:List Frame}{w w₁ w':World}{g g':Goroutine}
abbrev Ww(Z:Pz)(i bx:Nat)(Stop:(Nat->Prop)->Goroutine->World->Prop):Tr->(Nat->Prop)->Goroutine->World->Prop:=Wk Z.P false (RW Z i bx) (DW Z i bx) Stop
def Nw(Z:Pz)(O:Nat->Prop)(w:World):Prop:=∀b,O b->Z.L0<=b/\b<w.heap.size
theorem Nw.rely(h:Nw Z O w)(r:RW Z i bx O w w₁):Nw Z O w₁:=fun b hb=>⟨(h b hb).1,Nat.lt_of_lt_of_le (h b hb).2 r.size⟩
theorem a0s(h:Nw Z O w){es:Array Event}(he:∀e∈es,EvW Z i bx O w.heap.size e):DW Z i bx O O w w es:=
 ⟨Nat.le_refl _,rfl,rfl,rfl,fun _ _ _ _ _=>rfl,id,id,fun _ _=>rfl,fun _ h=>h,fun _ h=>.inl h,fun b hb=>(h b hb).2,he⟩
theorem c2n(h:∃T,Ww Z i bx Stop T O g w)(r:RW Z i bx O w w₁):∃T,Ww Z i bx Stop T O g w₁:=let ⟨T,h⟩:=h;⟨T,Wk.rely (R:=RW Z i bx) (fun _ _ _ _ h1 h2=>RW.trans Z h1 h2) h r⟩
theorem a1O(hN:Nw Z O w)(hrun:g.status=.running)(h:∀w,stepG Z.P false g w=.go g' w)(h':∃T,Ww Z i bx Stop T O g' w):∃T,Ww Z i bx Stop T O g w:=
 Wk.step hrun fun w₁ r=>let ⟨T,hT⟩:=c2n h' r;⟨g',w₁,#[],O,T,h w₁,a0s (hN.rely r) (by simp),hT⟩
def Rd1(Z:Pz)(bx:Nat)(b:Nat):Prop:=Z.Eld b\/b=bx
structure Kp(Z:Pz)(bx:Nat)(w0 w:World):Prop where
 size:w0.heap.size<=w.heap.size
 eld:∀b,Z.Eld b->w.heap[b]?=w0.heap[b]?
 box:w.heap[bx]?=w0.heap[bx]?
 al:a0A Z w0->a0A Z w
 cb:a0r Z w0->a0r Z w
 live:ConcN.WgLive Z.ty Z.Wg w0->ConcN.WgLive Z.ty Z.Wg w
theorem b3h(hZ:a0a Z){StopB:(Nat->Prop)->Goroutine->World->Prop}(hN:Nw Z O w)(hL:Z.L0<=w.heap.size)(hb:¬O bx/\bx<w.heap.size/\bx≠Z.Al/\bx≠Z.Cb)(h:∃T,Wk Z.P false (Bi.Rl (Rd1 Z bx)) (Bi.Gd (Rd1 Z bx)) StopB T O g w)
 (hk:∀O g w',StopB O g w'->Nw Z O w'->¬O bx->Kp Z bx w w'->∃T,Ww Z i bx Stop T O g w'):∃T,Ww Z i bx Stop T O g w:=by
 obtain⟨T,hT⟩:=h;have h1:Ww Z i bx (fun O g w'=>StopB O g w'/\Nw Z O w'/\¬O bx/\Kp Z bx w w') T O g w:=by
  refine b4T (fun O w'=>Nw Z O w'/\Z.L0<=w'.heap.size/\(¬O bx/\bx<w'.heap.size)/\Kp Z bx w w') ?_ ?_ ?_ ?_ ⟨hN,hL,⟨hb.1,hb.2.1⟩,Nat.le_refl _,fun _ _=>rfl,rfl,id,id,id⟩ hT
  ·exact fun O w1 w' h r=>⟨h.1.rely r,Nat.le_trans h.2.1 r.size,⟨h.2.2.1.1,Nat.lt_of_lt_of_le h.2.2.1.2 r.size⟩,Nat.le_trans h.2.2.2.size r.size,fun b hb=>(r.eld b hb).trans (h.2.2.2.eld b hb),r.box.trans h.2.2.2.box,r.al∘h.2.2.2.al,r.cb∘h.2.2.2.cb,r.live∘h.2.2.2.live⟩
  ·exact fun O w w' _ r=>⟨r.size,fun b hb=>hb.elim (r.eld b) fun e=>e▸r.box,r.own⟩
  ·intro O O' w1 w' es ⟨hN,hL,hO,hK⟩ d;have hnA:¬O Z.Al:=fun h=>by have:=(hN _ h).1;have:=hZ.A0;omega
   have hnC:¬O Z.Cb:=fun h=>by have:=(hN _ h).1;have:=hZ.C0;omega
   have hnW:¬O Z.Wg:=fun h=>by have:=(hN _ h).1;have:=hZ.W0;omega
   have eA:=d.old Z.Al (Nat.lt_of_lt_of_le hZ.A0 hL) hnA;have eC:=d.old Z.Cb (Nat.lt_of_lt_of_le hZ.C0 hL) hnC;have eW:=d.old Z.Wg (Nat.lt_of_lt_of_le hZ.W0 hL) hnW;have hN':Nw Z O' w':=fun b hb=>⟨(d.new b hb).elim (fun h=>(hN b h).1) fun h=>Nat.le_trans hL h,d.in_ b hb⟩;have fal:a0A Z w1->a0A Z w':=fun⟨v,h⟩=>⟨v,eA.trans h⟩;have fcb:a0r Z w1->a0r Z w':=fun⟨c,h,h'⟩=>⟨c,eC.trans h,h'⟩;refine⟨⟨d.size,d.tape,d.os,d.output,fun b h1 h2 _ _=>d.old b h1 h2,fal,fcb,?_,d.more,d.new,d.in_,?_⟩,hN',Nat.le_trans hL d.size,⟨fun h=>?_,Nat.lt_of_lt_of_le hO.2 d.size⟩,Nat.le_trans hK.size d.size,fun b hb=>?_,(d.old bx hO.2 hO.1).trans hK.box,fal∘hK.al,fcb∘hK.cb,fun h=>?_⟩
   ·intro k _;simp only[World.cell?,eC]
   ·intro e he;have:=d.ev e he;obtain⟨loc,wr,sy⟩:=e
    cases loc with
    | cell a=>
     obtain⟨h1,h2,h3⟩:=this
     exact⟨h3,.inr ⟨h1,h2.elim .inl fun h=>.inr (.inr h)⟩⟩
    | obj r=>
     obtain⟨h1,h2,h3,h4⟩:=this
     exact⟨h4,h1,h2.elim .inl fun h=>.inr ⟨h,h3⟩⟩
    | mark m=>exact this
    | _=>exact(this:False).elim
   ·rcases d.new bx h with h|h
    ·exact hO.1 h
    ·have:=hO.2;omega
   ·have h1:=(hZ.eld b hb).1;exact(d.old b (Nat.lt_of_lt_of_le h1 hL) fun h=>by have:=(hN _ h).1;omega).trans (hK.eld b hb)
   ·obtain⟨st,sm,h2⟩:=hK.live h;exact⟨st,sm,eW.trans h2⟩
  ·exact fun O g w1 h s=>⟨s,h.1,h.2.2.1.1,h.2.2.2⟩
 exact Wk.bind (R:=RW Z i bx) (RW.refl Z i bx) (fun _ _ _ _ h1 h2=>RW.trans Z h1 h2) h1 fun O g w'⟨h,hn,hb,hk'⟩=>hk O g w' h hn hb hk'
end
section
open Go.Conc Go.RowKit Go.Conc.Lib Go.ConcR.Gen Go.ConcN.Gen
open Go.ConcR (KK wgBlock WgAt stA smA rd wr mk Payload DC0)
open Go.ConcN (WgLive Has AtR0 DWs)
variable[Payload]{L:WgLink}{P:Program}
def c0u(P:Program)(g:Goroutine)(w:World):Prop:=∃g',stepG P false g w=.go g' w #[mk .disable]
def c36(P:Program)(ty:TypeId)(Wg C n Low k:Nat)(g:Goroutine)(w:World):Prop:=
 ∃g',stepG P false g w=.go g' w #[mk (.releaseMerge (stA Wg))]/\∃m,Goes P false (ConcN.RW ty Wg C n Low (k - 1)) DC0 (c0u P) m g' w
theorem W9{ty:TypeId}{Wg C n Low i:Nat}(w:World):ConcN.RW ty Wg C n Low i w w:=⟨fun _ _ _ _=>rfl,id,id,rfl⟩
theorem a6C{ty:TypeId}{Wg C n Low i:Nat}(a b c:World)(h:ConcN.RW ty Wg C n Low i a b)(k:ConcN.RW ty Wg C n Low i b c):ConcN.RW ty Wg C n Low i a c:=
 ⟨fun b h1 h2 h3=>(k.low b h1 h2 h3).trans (h.low b h1 h2 h3),k.live∘h.live,k.pay∘h.pay,k.cell.trans h.cell⟩
section
variable{ty:TypeId}{Wg C n Low k:Nat}{val:Value}{Own Rd:Nat->Loc->Prop}
theorem c0w:∀(m n1:Nat)(g:Goroutine)(w:World),Goes P false (ConcN.RW ty Wg C n Low (k - 1)) (DWs Wg Own Rd C n k) (AtR0 P ty Wg C n Low k val) n1 g w->Goes P false (ConcN.RW ty Wg C n Low (k - 1)) DC0 (c0u P) m g w->False:=by
 have base:∀(n1:Nat)(g:Goroutine)(w:World),Goes P false (ConcN.RW ty Wg C n Low (k - 1)) (DWs Wg Own Rd C n k) (AtR0 P ty Wg C n Low k val) n1 g w->c0u P g w->False:=by
  rintro n1 g w h ⟨g',e⟩;have stop:AtR0 P ty Wg C n Low k val g w->False:=by
   rintro⟨_,_,g'',e',_⟩;rw[e] at e';injection e' with _ _ e3;have:=congrArg (fun x=>x[0]?) e3;simp[mk] at this
  cases n1 with
  | zero=>exact stop (h w (W9 w))
  | succ n1=>
   rcases h with h|⟨_,h⟩
   ·exact stop (h w (W9 w))
   ·have:=h w (W9 w);rw[e] at this;exact(this.1.2 (mk .disable) (by simp)).2.1 rfl
 intro m
 induction m with
 | zero=>exact fun n1 g w h hk=>base n1 g w h (hk w (W9 w))
 | succ m ih=>
  intro n1 g w h hk;rcases hk with hk|⟨_,hk⟩
  ·exact base n1 g w h (hk w (W9 w))
  ·have k1:=hk w (W9 w);obtain⟨g',w',es,e,⟨e1,e2⟩,kn⟩:=goes_elim k1;subst e1;subst e2;have stop:AtR0 P ty Wg C n Low k val g w'->False:=by
    rintro⟨_,_,g'',e',_⟩;rw[e] at e';injection e' with _ _ e3;have:=congrArg (fun x=>x.size) e3;simp at this
   cases n1 with
   | zero=>exact stop (h w' (W9 w'))
   | succ n1=>
    rcases h with h|⟨_,h⟩
    ·exact stop (h w' (W9 w'))
    ·have:=h w' (W9 w');rw[e] at this;exact ih n1 g' w' this.2 kn
theorem b7C:∀(m n1:Nat)(g:Goroutine)(w:World),Goes P false (ConcN.RW ty Wg C n Low (k - 1)) DC0 (c36 P ty Wg C n Low k) m g w->Goes P false (ConcN.RW ty Wg C n Low (k - 1)) (DWs Wg Own Rd C n k) (AtR0 P ty Wg C n Low k val) n1 g w->
 Goes P false (ConcN.RW ty Wg C n Low (k - 1)) DC0 (AtR0 P ty Wg C n Low k val) m g w:=by
 have base:∀(n1:Nat)(g:Goroutine)(w:World),Goes P false (ConcN.RW ty Wg C n Low (k - 1)) (DWs Wg Own Rd C n k) (AtR0 P ty Wg C n Low k val) n1 g w->c36 P ty Wg C n Low k g w->AtR0 P ty Wg C n Low k val g w:=by
  rintro n1 g w h ⟨g',e,m,hm⟩
  cases n1 with
  | zero=>exact h w (W9 w)
  | succ n1=>
   rcases h with h|⟨_,h⟩
   ·exact h w (W9 w)
   ·have:=h w (W9 w);rw[e] at this;exact(c0w m n1 g' w this.2 hm).elim
 intro m
 induction m with
 | zero=>exact fun n1 g w hk h w₁ r=>base n1 g w₁ (h.rely a6C r) (hk w₁ r)
 | succ m ih=>
  intro n1 g w hk h;rcases hk with hk|⟨hs,hk⟩
  ·exact .inl fun w₁ r=>base n1 g w₁ (h.rely a6C r) (hk w₁ r)
  ·refine .inr ⟨hs,fun w₁ r=>?_⟩;have k1:=hk w₁ r;obtain⟨g',w',es,e,⟨e1,e2⟩,kn⟩:=goes_elim k1;subst e1;subst e2;have h1:=h.rely a6C r;have stop:AtR0 P ty Wg C n Low k val g w'->False:=by
    rintro⟨_,_,g'',e',_⟩;rw[e] at e';injection e' with _ _ e3;have:=congrArg (fun x=>x.size) e3;simp at this
   rw[e]
   cases n1 with
   | zero=>exact(stop (h1 w' (W9 w'))).elim
   | succ n1=>
    rcases h1 with h1|⟨_,h1⟩
    ·exact(stop (h1 w' (W9 w'))).elim
    ·have:=h1 w' (W9 w');rw[e] at this;exact⟨⟨rfl,rfl⟩,ih n1 g' w' kn this.2⟩
end
theorem c2f(H:WgLib P L){Wg C n Low k:Nat}{val:Value}{c:Frame}{cs:List Frame}(w:World)(hK:WgLive L.tWg Wg w/\Has C (k - 1) val w):
 Goes P false (ConcN.RW L.tWg Wg C n Low (k - 1)) DC0 (c36 P L.tWg Wg C n Low k) 60 (G ((baseD L.done).at ⟨#[.pointer (some ⟨Wg,0,none⟩),undef,undef,undef],[]⟩ [.code (body_done L)]) (c::cs)) w:=by
 lib_facts;simp only[body_done,body_add,doneFn,addFn,Option.getD_some];u_reg kn_rely hK
 u_op kn_rely hK
 u_in kn_rely hK
 refine goes_call rfl rfl (by k_ne) rfl H.f_add (nm_add L) rfl ⟨by u_nil,?_⟩;walk_nrmf addFn
 iterate 12 (first|u_c stepG_seq kn_rely hK|u_reg kn_rely hK|u_c stepG_region_end kn_rely hK|u_cond true kn_rely hK|u_conv H.underlying_tWgP H.room_tWg (WgLive.cell0 hK.1).choose_spec kn_rely hK|u_op kn_rely hK)
 refine Goes.stop (fun w₁ h₁=>?_);replace hK:=kn_rely hK h₁;clear h₁;refine⟨_,stepG_markAt .releaseMerge (by simp) rfl rfl (by k_ne) rfl H.f_relMerge (x_relMerge_n L) (x_relMerge_b L) (x_relMerge_x L) (x_relMerge_f L) (by simp[Act.eval,stA]),10,?_⟩;walk_nrm;iterate 3 (first|u_c stepG_seq kn_rely hK|u_c stepG_region_end kn_rely hK|u_reg kn_rely hK)
 exact Goes.stop (fun w₁ h₁=>⟨_,stepG_mark0 .disable (by simp) rfl rfl (by k_ne) rfl H.f_disable (x_disable_n L) (x_disable_b L) (x_disable_x L) (x_disable_f L)⟩)
theorem b4P(H:WgLib P L){Wg C n Low k:Nat}{val:Value}{c:Frame}{cs:List Frame}{qt:Nat}(hcm:c.mode=.returning)(hT:QuitsD P qt 0 (G c cs))(w:World)(hK:WgLive L.tWg Wg w/\Has C (k - 1) val w):
 Goes P false (ConcN.RW L.tWg Wg C n Low (k - 1)) DC0 (AtR0 P L.tWg Wg C n Low k val) 60 (G ((baseD L.done).at ⟨#[.pointer (some ⟨Wg,0,none⟩),undef,undef,undef],[]⟩ [.code (body_done L)]) (c::cs)) w:=
 b7C 60 23 _ _ (c2f (val:=val) H w hK) (doneN (Own:=fun _ _=>False) (Rd:=fun _ _=>False) H hcm hT w hK)
end
end Go.Mw
