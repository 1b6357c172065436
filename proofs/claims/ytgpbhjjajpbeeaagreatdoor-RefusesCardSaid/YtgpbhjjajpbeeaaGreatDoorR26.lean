/- A part of what the last file proves. -/
import Derived.Test.YtgpbhjjajpbeeaaGreatDoorR16
import Derived.Test.YtgpbhjjajpbeeaaGreatDoorR25
import Derived.Conc.LeavingOf
import Derived.Deep.DeepHandedRow
set_option linter.all false
set_option maxHeartbeats 1000000
namespace Go.Nm
section
open Zn (MarkOK HaltOK bind_ok a5O)
variable{P:Program}
def a02(n:Nat)(e:Event):Prop:=
 match e.loc with
 | .cell a=>a.block<n
 | .obj r=>r<n
 | .mark m=>MarkOK m
 | .output=>True
 | .goroutines=>False
theorem a02.mono{n m:Nat}(h:n<=m){e:Event}(k:a02 n e):a02 m e:=by
 unfold a02 at *;split at k
 ·exact Nat.lt_of_lt_of_le k h
 ·exact Nat.lt_of_lt_of_le k h
 ·exact k
 ·trivial
 ·exact k.elim
theorem b2S{w:World}{a:Addr}{v:Value}(h:w.cell? a=some v):a.block<w.heap.size:=by
 unfold World.cell? at h
 cases e:w.heap[a.block]? with
 | none=>rw[e] at h;cases h
 | some o=>exact(Array.getElem?_eq_some_iff.1 e).1
theorem c1S{w:World}{a:Addr}{at_:Bool}{v:Value}{l:List Addr}(h:w.farLoad P a at_=.ok (v,l)):∀x∈l,x.block<w.heap.size:=by
 unfold World.farLoad at h
 cases ho:w.heap[a.block]? with
 | none=>rw[ho] at h;cases h
 | some o=>
  rw[ho] at h
  cases o with
  | view at0 u=>
   dsimp only at h
   cases hv:w.viewLoad P at0 u a at_ with
   | error x=>rw[hv] at h;cases h
   | ok r=>
    rw[hv] at h;injection h with h;subst h;unfold World.viewLoad at hv;obtain⟨⟨c,e,fr,first,like,cells⟩,h1,h2⟩:=bind_ok hv;have h3:=a5O h1;dsimp only at h2;split at h2
    ·injection h2 with h2;injection h2 with h2 h4;subst h4;intro x hx;obtain⟨y,-,rfl⟩:=List.mem_map.1 hx;exact(Array.getElem?_eq_some_iff.1 h3).1
    ·cases h2
  | _=>cases h
theorem b2T{w w':World}{a:Addr}{at_:Bool}{v:Value}{l:List Addr}(h:w.farStore P a v at_=.ok (w',l)):w'.heap.size=w.heap.size/\∀x∈l,x.block<w.heap.size:=by
 unfold World.farStore at h
 cases ho:w.heap[a.block]? with
 | none=>rw[ho] at h;cases h
 | some o=>
  rw[ho] at h
  cases o with
  | view at0 u=>
   dsimp only at h
   cases hv:w.viewStore P at0 u a v at_ with
   | error x=>rw[hv] at h;cases h
   | ok r=>
    rw[hv] at h;injection h with h;subst h;unfold World.viewStore at hv;by_cases ht:(!tight P P.depth u)=true
    ·rw[if_pos ht] at hv;cases hv
    ·rw[if_neg ht] at hv;obtain⟨⟨c,e,fr,first,like,cells⟩,h1,h2⟩:=bind_ok hv;have h3:=a5O h1;dsimp only at h2;split at h2
     case h_2=>cases h2
     rename_i bytes hby;by_cases hl:some bytes.length≠like.bytes?.map (·.length)
     ·rw[if_pos hl] at h2;cases h2
     rw[if_neg hl] at h2;obtain⟨c',h4,h5⟩:=bind_ok h2;injection h5 with h5;injection h5 with h5 h6;subst h5 h6;refine⟨by simp,fun x hx=>?_⟩;obtain⟨y,-,rfl⟩:=List.mem_map.1 hx
     exact(Array.getElem?_eq_some_iff.1 h3).1
  | _=>cases h
theorem Nf.low{α:Type}{Q:α->Prop}{s:Sem α}(h:Nf P Q s):∀{w w':World}{es es':Array Event}{v:α},s.runT P w es=(.ok v w',es')->Q v/\w.heap.size<=w'.heap.size/\((∀e∈es,a02 w.heap.size e)->∀e∈es',a02 w'.heap.size e):=by
 have push:∀{es:Array Event}{n:Nat}{x:Event},(∀e∈es,a02 n e)->a02 n x->∀e∈es.push x,a02 n e:=fun h1 h2 e he=>by
  rcases Array.mem_push.1 he with he|rfl
  ·exact h1 e he
  ·exact h2
 have apps:∀{es:Array Event}{n:Nat}{l:List Addr}{b c:Bool},(∀e∈es,a02 n e)->(∀x∈l,x.block<n)->∀e∈es++l.toArray.map (fun x=>(⟨.cell x,b,c⟩:Event)),a02 n e:=fun h1 h2 e he=>by
  rcases Array.mem_append.1 he with he|he
  ·exact h1 e he
  ·obtain⟨x,hx,rfl⟩:=Array.mem_map.1 he;exact h2 x (by simpa using hx)
 induction s with
 | halt x=>intro w w' es es' v hr;cases hr
 | pure a=>
  intro w w' es es' v hr;simp only[Sem.runT,Prod.mk.injEq,Result.ok.injEq] at hr;obtain⟨⟨rfl,rfl⟩,rfl⟩:=hr
  exact⟨h,Nat.le_refl _,id⟩
 | load m a k ih=>
  intro w w' es es' v hr;simp only[Sem.runT] at hr
  cases hc:w.cell? a with
  | some x=>
   rw[hc] at hr;obtain⟨h1,h2,h3⟩:=ih x (h x) hr
   exact⟨h1,h2,fun he=>h3 (push he (b2S hc))⟩
  | none=>
   rw[hc] at hr;dsimp only at hr
   cases hf:w.farLoad P a (m==.atomic) with
   | error x=>rw[hf] at hr;cases hr
   | ok r=>
    obtain⟨x,l⟩:=r;rw[hf] at hr;obtain⟨h1,h2,h3⟩:=ih x (h x) hr
    exact⟨h1,h2,fun he=>h3 (apps he (c1S hf))⟩
 | store m a x k ih=>
  intro w w' es es' v hr
  have e1:(Sem.store m a x k).runT P w es=match w.cell? a with
   | some _=>if w.frozen? a then(.halt (.unsupported (.unsafePointer "a write to bytes that a string shares")) w,es) else k.runT P (w.setCell a x) (es.push ⟨.cell a,true,m==.atomic⟩)
   | none=>match w.farStore P a x (m==.atomic) with
    | .ok (w,touched)=>k.runT P w (es++touched.toArray.map (⟨.cell ·,true,m==.atomic⟩))
    | .error h=>(.halt h w,es):=by
   cases x<;>first|rfl|(exfalso;cases hr)
  rw[e1] at hr
  cases hc:w.cell? a with
  | some y=>
   rw[hc] at hr;dsimp only at hr;split at hr
   ·cases hr
   ·obtain⟨h1,h2,h3⟩:=ih h hr;have hz:(w.setCell a x).heap.size=w.heap.size:=by simp[World.setCell]
    rw[hz] at h2 h3
    exact⟨h1,h2,fun he=>h3 (push he (b2S hc))⟩
  | none=>
   rw[hc] at hr;dsimp only at hr
   cases hf:w.farStore P a x (m==.atomic) with
   | error y=>rw[hf] at hr;cases hr
   | ok r=>
    obtain⟨w1,l⟩:=r;rw[hf] at hr;obtain⟨h1,h2,h3⟩:=ih h hr;obtain⟨hz,hl⟩:=b2T hf;rw[hz] at h2 h3
    exact⟨h1,h2,fun he=>h3 (apps he hl)⟩
 | new o k ih=>
  intro w w' es es' v hr;obtain⟨h1,h2,h3⟩:=ih _ (h _) (show(k w.heap.size).runT P {w with heap:=w.heap.push o} es=_ from hr);have hz:(w.heap.push o).size=w.heap.size+1:=Array.size_push _;dsimp only at h2 h3;rw[hz] at h2 h3
  exact⟨h1,by omega,fun he=>h3 fun e hx=>(he e hx).mono (by omega)⟩
 | shape r k ih=>intro w w' es es' v hr;exact ih _ (h _) (show(k (w.shape? r)).runT P w es=_ from hr)
 | freeze a n k ih=>
  intro w w' es es' v hr;obtain⟨h1,h2,h3⟩:=ih h (show k.runT P (w.freeze a n) es=_ from hr);have hz:(w.freeze a n).heap.size=w.heap.size:=by unfold World.freeze;split<;>simp
  rw[hz] at h2 h3
  exact⟨h1,h2,h3⟩
 | frozen a k ih=>intro w w' es es' v hr;exact ih _ (h _) (show(k (w.frozen? a)).runT P w es=_ from hr)
 | getObj r k ih=>
  intro w w' es es' v hr;simp only[Sem.runT] at hr;split at hr
  ·cases hr
  ·rename_i o ho _;obtain⟨h1,h2,h3⟩:=ih o (h o) hr;exact⟨h1,h2,fun he=>h3 (push he (show r<_ from(Array.getElem?_eq_some_iff.1 (by assumption)).1))⟩
  ·cases hr
 | setObj r o k ih=>
  intro w w' es es' v hr;simp only[Sem.runT] at hr;split at hr
  ·cases hr
  ·obtain⟨h1,h2,h3⟩:=ih h hr;dsimp only at h2 h3;rw[Array.size_setIfInBounds] at h2 h3;exact⟨h1,h2,fun he=>h3 (push he (show r<_ from(Array.getElem?_eq_some_iff.1 (by assumption)).1))⟩
  ·cases hr
 | choose q k ih=>
  intro w w' es es' v hr;simp only[Sem.runT] at hr;split at hr
  ·exact ih _ (h _) hr
  ·exact ih _ (h _) (w:={w with drawn:=w.drawn+1}) hr
 | sys c k ih=>
  intro w w' es es' v hr;obtain⟨rfl,hk⟩:=h;obtain⟨h1,h2,h3⟩:=ih _ (hk _) (show(k (w.sys .env).1).runT P (w.sys .env).2 (es.push ⟨.output,true,false⟩)=_ from hr);have hz:(w.sys .env).2.heap.size=w.heap.size:=rfl;rw[hz] at h2 h3
  exact⟨h1,h2,fun he=>h3 (push he trivial)⟩
 | program k ih=>intro w w' es es' v hr;exact ih P h (show(k P).runT P w es=_ from hr)
 | mark m k ih=>
  intro w w' es es' v hr;obtain⟨h1,h2,h3⟩:=ih h.2 (show k.runT P w (es.push ⟨.mark m,false,true⟩)=_ from hr);exact⟨h1,h2,fun he=>h3 (push he h.1)⟩
def IsRow(w:World)(b:Nat):Prop:=∃c e f,w.heap[b]?=some (.cells c e f)
def Rows(w w':World):Prop:=w.heap.size<=w'.heap.size/\∀b,IsRow w b->IsRow w' b
theorem Rows.refl(w:World):Rows w w:=⟨Nat.le_refl _,fun _ h=>h⟩
theorem Rows.trans{a b c:World}(h:Rows a b)(k:Rows b c):Rows a c:=⟨Nat.le_trans h.1 k.1,fun x hx=>k.2 x (h.2 x hx)⟩
theorem b1x(w:World)(a:Addr)(v:Value):Rows w (w.setCell a v):=by
 refine⟨by simp[World.setCell],?_⟩;rintro b ⟨c,e,f,h⟩;unfold World.setCell IsRow;dsimp only;rw[Array.getElem?_modify,h];by_cases hb:a.block=b
 ·rw[if_pos hb];exact⟨_,_,_,rfl⟩
 ·rw[if_neg hb];exact⟨_,_,_,rfl⟩
theorem b2U(w:World)(a:Addr)(n:Nat):Rows w (w.freeze a n):=by
 refine⟨by unfold World.freeze;split<;>simp,?_⟩;rintro b ⟨c,e,f,h⟩;unfold World.freeze IsRow;split
 ·exact⟨_,_,_,h⟩
 ·dsimp only;rw[Array.getElem?_modify,h];by_cases hb:a.block=b
  ·rw[if_pos hb];obtain⟨lo,hi⟩:=f;exact⟨_,_,_,rfl⟩
  ·rw[if_neg hb];exact⟨_,_,_,rfl⟩
theorem b9U(w:World)(o:Obj):Rows w {w with heap:=w.heap.push o}:=by
 refine⟨by simp,?_⟩;rintro b ⟨c,e,f,h⟩;have:=(Array.getElem?_eq_some_iff.1 h).1;exact⟨c,e,f,by show(w.heap.push o)[b]?=_;rw[Array.getElem?_push,if_neg (by omega)];exact h⟩
theorem b2V(w:World){r:Nat}{o o':Obj}(ho:w.heap[r]?=some o')(hn:∀c e f,o'≠.cells c e f):Rows w {w with heap:=w.heap.setIfInBounds r o}:=by
 refine⟨by simp,?_⟩;rintro b ⟨c,e,f,h⟩;have hb:r≠b:=by
  rintro rfl;rw[ho] at h;injection h with h;exact hn _ _ _ h
 exact⟨c,e,f,by show(w.heap.setIfInBounds r o)[b]?=_;rw[Array.getElem?_setIfInBounds_ne hb];exact h⟩
theorem b9V{w w':World}{a:Addr}{at_:Bool}{v:Value}{l:List Addr}(h:w.farStore P a v at_=.ok (w',l)):Rows w w':=by
 refine⟨Nat.le_of_eq (b2T h).1.symm,?_⟩;unfold World.farStore at h
 cases ho:w.heap[a.block]? with
 | none=>rw[ho] at h;cases h
 | some o=>
  rw[ho] at h
  cases o with
  | view at0 u=>
   dsimp only at h
   cases hv:w.viewStore P at0 u a v at_ with
   | error x=>rw[hv] at h;cases h
   | ok r=>
    rw[hv] at h;injection h with h;subst h;unfold World.viewStore at hv;by_cases ht:(!tight P P.depth u)=true
    ·rw[if_pos ht] at hv;cases hv
    ·rw[if_neg ht] at hv;obtain⟨⟨c,e,fr,first,like,cells⟩,h1,h2⟩:=bind_ok hv;dsimp only at h2;split at h2
     case h_2=>cases h2
     rename_i bytes hby;by_cases hl:some bytes.length≠like.bytes?.map (·.length)
     ·rw[if_pos hl] at h2;cases h2
     rw[if_neg hl] at h2;obtain⟨c',h4,h5⟩:=bind_ok h2;injection h5 with h5;injection h5 with h5 h6;subst h5 h6;rintro b ⟨c0,e0,f0,hb⟩;by_cases hx:at0.block=b
     ·subst hx;have hlt:=(Array.getElem?_eq_some_iff.1 hb).1;exact⟨_,_,_,by show(w.heap.setIfInBounds at0.block _)[at0.block]?=_;rw[Array.getElem?_setIfInBounds_self_of_lt hlt]⟩
     ·exact⟨c0,e0,f0,by show(w.heap.setIfInBounds at0.block _)[b]?=_;rw[Array.getElem?_setIfInBounds_ne hx];exact hb⟩
  | _=>cases h
def Short(u:World)(x:Halt):Prop:=HaltOK x\/∃g,x=.unsupported (.initOrder g)/\¬IsRow u g
def c5F{α:Type}:Result α->World
 | .ok _ w=>w
 | .halt _ w=>w
theorem a5F(w:World)(a:Addr)(t:String):Short w (w.noCell a t):=by
 unfold World.noCell;split
 ·rename_i h;exact .inr ⟨_,rfl,fun⟨c,e,f,h'⟩=>by rw[h] at h';cases h'⟩
 ·exact .inl trivial
 ·exact .inl trivial
theorem b7p{w:World}{a:Addr}{b:Bool}{x:Halt}(h:w.farLoad P a b=.error x):Short w x:=by
 unfold World.farLoad at h;split at h
 ·split at h
  ·cases h
  ·injection h with h;subst h;exact .inl trivial
 ·injection h with h;subst h;exact a5F _ _ _
theorem b4x{w:World}{a:Addr}{v:Value}{b:Bool}{x:Halt}(h:w.farStore P a v b=.error x):Short w x:=by
 unfold World.farStore at h;split at h
 ·split at h
  ·cases h
  ·injection h with h;subst h;exact .inl trivial
 ·injection h with h;subst h;exact a5F _ _ _
theorem Nf.run{α:Type}{Q:α->Prop}{s:Sem α}(h:Nf P Q s):∀(w:World)(es:Array Event),Rows w (c5F (s.runT P w es).1)/\∀x u,(s.runT P w es).1=.halt x u->Short u x:=by
 induction s with
 | halt x=>
  intro w es;refine⟨Rows.refl w,fun y u e=>?_⟩;simp only[Sem.runT,Result.halt.injEq] at e;obtain⟨rfl,rfl⟩:=e
  exact .inl h
 | pure a=>intro w es;exact⟨Rows.refl w,fun y u e=>by cases e⟩
 | load m a k ih=>
  intro w es;simp only[Sem.runT]
  cases hc:w.cell? a with
  | some x=>exact ih x (h x) w _
  | none=>
   dsimp only
   cases hf:w.farLoad P a (m==.atomic) with
   | error x=>
    refine⟨Rows.refl w,fun y u e=>?_⟩;simp only[Result.halt.injEq] at e;obtain⟨rfl,rfl⟩:=e
    exact b7p hf
   | ok r=>exact ih _ (h _) w _
 | store m a x k ih=>
  intro w es
  have e1:(∃t,(Sem.store m a x k).runT P w es=(.halt (.stuck t) w,es))\/(Sem.store m a x k).runT P w es=match w.cell? a with
   | some _=>if w.frozen? a then(.halt (.unsupported (.unsafePointer "a write to bytes that a string shares")) w,es) else k.runT P (w.setCell a x) (es.push ⟨.cell a,true,m==.atomic⟩)
   | none=>match w.farStore P a x (m==.atomic) with
    | .ok (w,touched)=>k.runT P w (es++touched.toArray.map (⟨.cell ·,true,m==.atomic⟩))
    | .error h=>(.halt h w,es):=by
   cases x<;>first|exact .inl ⟨_,rfl⟩|exact .inr rfl
  rcases e1 with⟨t,e1⟩|e1
  ·rw[e1];exact⟨Rows.refl w,fun y u e=>by
    simp only[Result.halt.injEq] at e;obtain⟨rfl,rfl⟩:=e;exact .inl trivial⟩
  rw[e1]
  cases hc:w.cell? a with
  | some y=>
   dsimp only;split
   ·exact⟨Rows.refl w,fun y u e=>by
     simp only[Result.halt.injEq] at e;obtain⟨rfl,rfl⟩:=e;exact .inl trivial⟩
   ·obtain⟨h1,h2⟩:=ih h (w.setCell a x) (es.push ⟨.cell a,true,m==.atomic⟩)
    exact⟨(b1x w a x).trans h1,h2⟩
  | none=>
   dsimp only
   cases hf:w.farStore P a x (m==.atomic) with
   | error y=>
    exact⟨Rows.refl w,fun z u e=>by
     simp only[Result.halt.injEq] at e;obtain⟨rfl,rfl⟩:=e
     exact b4x hf⟩
   | ok r=>
    obtain⟨h1,h2⟩:=ih h r.1 (es++r.2.toArray.map (⟨.cell ·,true,m==.atomic⟩))
    exact⟨(b9V hf).trans h1,h2⟩
 | new o k ih=>
  intro w es;obtain⟨h1,h2⟩:=ih _ (h w.heap.size) {w with heap:=w.heap.push o} es
  exact⟨(b9U w o).trans h1,h2⟩
 | shape r k ih=>intro w es;exact ih _ (h _) w es
 | freeze a n k ih=>
  intro w es;obtain⟨h1,h2⟩:=ih h (w.freeze a n) es
  exact⟨(b2U w a n).trans h1,h2⟩
 | frozen a k ih=>intro w es;exact ih _ (h _) w es
 | getObj r k ih=>
  intro w es;simp only[Sem.runT];split
  ·exact⟨Rows.refl w,fun z u e=>by
    simp only[Result.halt.injEq] at e;obtain⟨rfl,rfl⟩:=e;exact .inl trivial⟩
  ·exact ih _ (h _) w _
  ·exact⟨Rows.refl w,fun z u e=>by
    simp only[Result.halt.injEq] at e;obtain⟨rfl,rfl⟩:=e
    exact .inl trivial⟩
 | setObj r o k ih=>
  intro w es;simp only[Sem.runT];split
  ·exact⟨Rows.refl w,fun z u e=>by
    simp only[Result.halt.injEq] at e;obtain⟨rfl,rfl⟩:=e;exact .inl trivial⟩
  ·rename_i o' ho hn;obtain⟨h1,h2⟩:=ih h {w with heap:=w.heap.setIfInBounds r o} (es.push ⟨.obj r,true,o.isChan⟩);exact⟨(b2V w hn fun c e f he=>ho c e f he).trans h1,h2⟩
  ·exact⟨Rows.refl w,fun z u e=>by
    simp only[Result.halt.injEq] at e;obtain⟨rfl,rfl⟩:=e
    exact .inl trivial⟩
 | choose q k ih=>
  intro w es;simp only[Sem.runT];split
  ·exact ih _ (h _) w es
  ·exact ih _ (h _) {w with drawn:=w.drawn+1} es
 | sys c k ih=>
  intro w es;obtain⟨rfl,hk⟩:=h
  exact ih _ (hk _) (w.sys .env).2 _
 | program k ih=>intro w es;exact ih P h w es
 | mark m k ih=>intro w es;exact ih h.2 w _
end
section
open Zn (MarkOK HaltOK ext kk low Gr K0 Stops a0y Z8 L9 a1j raise_mode a1k a0M a2x a3x a2y a2m)
variable{P:Program}{D:Disc}
def CodeN(D:Disc):Code->Prop
 | .seq a b=>CodeN D a/\CodeN D b
 | .cond _ a b=>CodeN D a/\CodeN D b
 | .block _ b=>CodeN D b
 | .loop b=>CodeN D b
 | .scope b=>CodeN D b
 | .region _ ops _=>∀o∈ops,OpN D o.op
 | .rangeFunc ..=>False
 | _=>True
inductive a1x(D:Disc):Item->Prop
 | code (c:Code) (h:CodeN D c):a1x D (.code c)
 | inBlock (id:Nat):a1x D (.inBlock id)
 | inLoop (c:Code) (h:CodeN D c):a1x D (.inLoop c)
 | inScope (c:Code) (h:CodeN D c):a1x D (.inScope c)
 | inRegion (ops:Array Oper) (l:List Nat) (h:∀o∈ops,OpN D o.op):a1x D (.inRegion ops l)
structure FrN(D:Disc)(fr:Frame):Prop where
 todo:∀x∈fr.todo,a1x D x
 defers:fr.defers=[]
 mode:fr.mode=.run\/fr.mode=.returning
 kind:fr.kind=.normal
 round:fr.roundOf=none
structure NInv(D:Disc)(fr:Frame)(l:List Frame):Prop where
 fr:FrN D fr
 low:∀x∈l,FrN D x/\x.mode=.run/\x.todo≠[]
structure PNC(D:Disc)(P:Program):Prop extends PN D P where
 early:∀g,P.globals.size<=g->P.stepOf g=none
 code:∀f fn c,D.F f->P.funcs[f]?=some fn->fn.body=some c->CodeN D c
inductive StN(D:Disc)(l:List Frame)(w:World)(s:List Item->List Frame->GStep):Prop
 | go (fr':Frame) (l':List Frame) (w':World) (es:Array Event) (h:∀κ cs,s κ cs=.go (Gr fr' l' κ cs) w' es) (hI:NInv D fr' l') (hr:Rows w w') (he:∀e∈es,a02 w'.heap.size e):StN D l w s
 | bad (fr':Frame) (chain:List PanicEntry) (w':World) (es:Array Event) (h:∀κ cs,s κ cs=.go (Gr fr' l κ cs) w' es) (hm:fr'.mode=.panicking chain) (hd:fr'.defers=[]):StN D l w s
 | stop (h:∀cs,Stops (s K0 cs)):StN D l w s
theorem StN.congr{l:List Frame}{w:World}{s s':List Item->List Frame->GStep}(h:∀κ cs,s κ cs=s' κ cs)(k:StN D l w s'):StN D l w s:=by
 have:s=s':=by funext κ cs;exact h κ cs
 exact this▸k
theorem FrN.finish{fr:Frame}(h:FrN D fr)(v:Value):FrN D (fr.finish v)/\(fr.finish v).mode=fr.mode/\(fr.finish v).roundOf=fr.roundOf:=by
 obtain⟨fn,tmps,todo,defers,mode,kind,roundOf⟩:=fr;obtain⟨h3,h4,h5,h6,h7⟩:=h;dsimp only at h3 h4 h5 h6 h7;unfold Frame.finish
 cases todo with
 | nil=>exact⟨⟨h3,h4,h5,h6,h7⟩,rfl,rfl⟩
 | cons x k=>
  have hk:∀y∈k,a1x D y:=fun y hy=>h3 y (by simp[hy]);have hx:=h3 x (by simp)
  cases hx with
  | inRegion ops l h=>
   cases l with
   | nil=>exact⟨⟨h3,h4,h5,h6,h7⟩,rfl,rfl⟩
   | cons i rest=>
    refine⟨⟨fun y hy=>?_,h4,h5,h6,h7⟩,rfl,rfl⟩;rcases List.mem_cons.1 hy with rfl|hy
    ·exact .inRegion _ _ h
    ·exact hk y hy
  | _=>exact⟨⟨h3,h4,h5,h6,h7⟩,rfl,rfl⟩
theorem b7q(hP:PNC D P){f:FuncId}(hf:D.F f)(args:Array Value):FrN D (Frame.enter P f args .normal):=by
 refine⟨fun x hx=>?_,rfl,.inl rfl,rfl,rfl⟩;simp only[Frame.enter,List.mem_singleton] at hx;subst hx;refine .code _ ?_
 cases hfn:P.funcs[f]? with
 | none=>trivial
 | some fn=>
  cases hb:fn.body with
  | none=>simp only[Option.bind_some,hb];trivial
  | some c=>simp only[Option.bind_some,hb];exact hP.code f fn c hf hfn hb
theorem b9W{fr:Frame}(h:FrN D fr)(hne:fr.todo≠[]){κ:List Item}{d:Deferred}{b:Bool}{r:String}{s:Array Value}{k:List Item}(e:(ext fr κ).todo=.call d b r s::k):False:=by
 obtain⟨fn,tmps,todo,defers,mode,kind,roundOf⟩:=fr
 cases todo with
 | nil=>exact hne rfl
 | cons x t=>
  injection (show x::(t++κ)=_ from e) with e1;have:=h.todo x (by simp);rw[e1] at this;cases this
theorem a2e{n:Nat}{fn:FuncId}{es:Array Event}(h:∀e∈es,a02 n e):∀e∈seen P fn es++#[],a02 n e:=fun e he=>by
 simp only[Array.append_empty] at he;exact h e (Go.Conc.mem_seen he)
theorem b7r(hP:PNC D P){fr:Frame}{l:List Frame}{w:World}(hW:∀g,g<P.globals.size->IsRow w g)(hI:NInv D fr l)(hm:fr.mode=.run)(hne:fr.todo≠[]){s:Sem Next}(hs:Nf P (a8I D) s):
 StN D l w (fun κ cs=>stepG.apply P true (ext fr (kk l κ)) (low l κ cs) none s w):=by
 have hk:∀κ,((ext fr κ).kind==CallKind.early)=false:=fun κ=>by show(fr.kind==CallKind.early)=false;rw[hI.fr.kind];rfl
 have hsn:∀κ es,seen P (ext fr κ).fn es=seen P fr.fn es:=fun _ _=>rfl;obtain⟨⟨r,es⟩,hT⟩:∃x,s.runT P w #[]=x:=⟨_,rfl⟩;obtain⟨hr,hh⟩:=hs.run w #[];rw[hT] at hr hh
 cases r with
 | ok a u=>
  obtain⟨hn,hsz,hev⟩:=hs.low hT;replace hev:=hev (by simp)
  cases a with
  | value v=>
   refine .go (fr.finish v) l u (seen P fr.fn es++#[]) (fun κ cs=>?_) ⟨(hI.fr.finish v).1,hI.low⟩ hr (a2e hev);unfold stepG.apply;simp only[if_true,hk,hsn,hT,L9 hne]
   rfl
  | skip=>
   refine .go (fr.finish undef) l u (seen P fr.fn es++#[]) (fun κ cs=>?_) ⟨(hI.fr.finish undef).1,hI.low⟩ hr (a2e hev);unfold stepG.apply;simp only[if_true,hk,hsn,hT,L9 hne]
   rfl
  | enter f args=>
   refine .go (Frame.enter P f args .normal) (fr::l) u (seen P fr.fn es++#[]) (fun κ cs=>?_) ⟨b7q hP hn args,fun x hx=>?_⟩ hr (a2e hev)
   ·unfold stepG.apply;simp only[if_true,hk,hsn,hT];dsimp only[GStep.after];split
    ·rename_i e;exact(b9W hI.fr hne e).elim
    ·unfold Gr;show _=GStep.go {frame:=ext (Frame.enter P f args .normal) [],callers:=_,status:=_,dying:=_} _ _;rw[a0y];rfl
   ·rcases List.mem_cons.1 hx with rfl|hx
    ·exact⟨hI.fr,hm,hne⟩
    ·exact hI.low x hx
  | _=>exact hn.elim
 | halt x u=>
  rcases hh x u rfl with hok|⟨g,rfl,hg⟩
  ·cases x with
   | panic v=>
    obtain⟨c,hc,hd⟩:=raise_mode fr [{v,recovered:=false}];refine .bad (fr.raise [{v,recovered:=false}]) c u (seen P fr.fn es++#[]) (fun κ cs=>?_) hc (hd.trans hI.fr.defers);unfold stepG.apply;simp only[if_true,hk,hsn,hT,a1j]
    rfl
   | stuck x=>
    refine .stop fun cs=>?_;unfold stepG.apply;simp only[if_true,hk,hT]
    trivial
   | unsupported y=>
    refine .stop fun cs=>?_;unfold stepG.apply;simp only[if_true,hk,hT]
    cases y<;>first|exact(hok:False).elim|trivial
   | _=>exact(hok:False).elim
  ·have hg':P.globals.size<=g:=by
    rcases Nat.lt_or_ge g P.globals.size with h|h
    ·exact absurd (hr.2 g (hW g h)) hg
    ·exact h
   have hst:=hP.early g hg';by_cases hfo:P.follows .staticDataAhead=true
   ·refine .stop fun cs=>?_;unfold stepG.apply;simp only[if_true,hk,hT];unfold early;simp only[hfo,hst];trivial
   ·cases hp:u.heap[g]? with
    | none=>
     refine .stop fun cs=>?_;unfold stepG.apply;simp only[if_true,hk,hT];unfold early;simp only[hfo,hp]
     trivial
    | some o=>
     by_cases hpe:∃c e,o=.pending c e
     ·obtain⟨c,e,rfl⟩:=hpe;refine .go fr l {u with heap:=u.heap.setIfInBounds g (.cells c e)} (seen P fr.fn #[]++#[]) (fun κ cs=>?_) hI (hr.trans (b2V u hp fun _ _ _ h=>by cases h)) (a2e (by simp));unfold stepG.apply;simp only[if_true,hk,hsn,hT];unfold early;simp only[hfo,hp];rfl
     ·refine .stop fun cs=>?_;unfold stepG.apply;simp only[if_true,hk,hT];unfold early;simp only[hfo,hp];cases o<;>first|trivial|exact absurd ⟨_,_,rfl⟩ hpe
end
section
open Zn (MarkOK HaltOK ext kk low Gr K0 Stops a0y Z8 L9 a1j raise_mode a1k a0M a2x a3x a2y a2m Stop)
variable{P:Program}{D:Disc}
theorem b4y(fn:Func)(tmps:Array Value):Mf P (results fn tmps):=by
 unfold results;refine l9 (b5F _ _ fun r=>?_) fun vs=>?_
 ·split
  ·exact trivial
  ·exact l9 (a2R) fun a=>a0L _
 ·split<;>exact trivial
theorem a03{fr:Frame}{l:List Frame}{w:World}(hI:NInv D fr l){k:List Item}(hk:∀x∈k,a1x D x){s:List Item->List Frame->GStep}(h:∀κ cs,s κ cs=.go (Gr {fr with todo:=k} l κ cs) w #[]):StN D l w s:=
 .go {fr with todo:=k} l w #[] h ⟨⟨hk,hI.fr.defers,hI.fr.mode,hI.fr.kind,hI.fr.round⟩,hI.low⟩ (Rows.refl w) (by simp)
theorem b5I{fr:Frame}{l:List Frame}{w:World}(hI:NInv D fr l){s:List Item->List Frame->GStep}(h:∀κ cs,s κ cs=.go {frame:={ext fr (kk l κ) with mode:=.returning},callers:=low l κ cs,status:=.running,dying:=none} w #[]):StN D l w s:=
 .go {fr with mode:=.returning} l w #[] h ⟨⟨hI.fr.todo,hI.fr.defers,.inr rfl,hI.fr.kind,hI.fr.round⟩,hI.low⟩ (Rows.refl w) (by simp)
theorem a9w:∀{c:Code}{l:Nat}{r:Code},CodeN D c->findLabel c l=some r->CodeN D r:=by
 intro c
 induction c with
 | seq a b iha ihb=>
  intro l r h e;unfold findLabel at e;split at e
  ·rename_i rest e1;injection e with e;subst e;exact⟨iha h.1 e1,h.2⟩
  ·exact ihb h.2 e
 | label l'=>
  intro l r h e;unfold findLabel at e;split at e
  ·injection e with e;subst e;trivial
  ·cases e
 | _=>intro l r h e;cases e
theorem b4z{l:Nat}:∀{k k':List Item},(∀x∈k,a1x D x)->gotoIn l k=some k'->∀x∈k',a1x D x:=by
 intro k
 induction k with
 | nil=>intro k' _ h;cases h
 | cons y k ih=>
  intro k' hk h;have hk':∀x∈k,a1x D x:=fun x hx=>hk x (List.mem_cons_of_mem _ hx)
  cases y with
  | inScope body=>
   have hb:CodeN D body:=by have:=hk (.inScope body) List.mem_cons_self;cases this;assumption
   unfold gotoIn at h;split at h
   ·rename_i rest e;injection h with h;subst h;intro x hx;rcases List.mem_cons.1 hx with rfl|hx
    ·exact .code _ (a9w hb e)
    rcases List.mem_cons.1 hx with rfl|hx
    ·exact .inScope _ hb
    ·exact hk' x hx
   ·exact ih hk' h
  | _=>exact ih hk' (show gotoIn l k=some k' from h)
theorem b9X(hP:PNC D P){fr:Frame}{l:List Frame}{w:World}(hW:∀g,g<P.globals.size->IsRow w g)(hI:NInv D fr l)(hm:fr.mode=.run)(hne:¬(l=[]/\fr.todo=[])):
 StN D l w (fun κ cs=>stepG.exec P true true (ext fr (kk l κ)) (low l κ cs) none w):=by
 obtain⟨fn,tmps,todo,defers,mode,kind,roundOf⟩:=fr;dsimp only at hm hne;subst hm;have hf:=hI.fr;have hro:roundOf=none:=hf.round;subst hro
 cases todo with
 | nil=>
  cases l with
  | nil=>exact absurd ⟨rfl,rfl⟩ hne
  | cons c l=>exact b5I hI fun _ _=>rfl
 | cons x k=>
  have hk:∀y∈k,a1x D y:=fun y hy=>hf.todo y (by simp[hy]);have hx:=hf.todo x (by simp);have c1:∀{a:Item},a1x D a->∀y∈a::k,a1x D y:=fun ha y hy=>by
   rcases List.mem_cons.1 hy with rfl|hy
   ·exact ha
   ·exact hk y hy
  have c2:∀{a b:Item},a1x D a->a1x D b->∀y∈a::b::k,a1x D y:=fun ha hb y hy=>by
   rcases List.mem_cons.1 hy with rfl|hy
   ·exact ha
   ·exact c1 hb y hy
  cases hx with
  | inBlock id=>exact a03 hI hk fun _ _=>rfl
  | inScope c h=>exact a03 hI hk fun _ _=>rfl
  | inLoop c h=>exact a03 hI (c2 (.code _ h) (.inLoop _ h)) fun _ _=>rfl
  | inRegion ops is h=>
   cases is with
   | nil=>exact a03 hI hk fun _ _=>rfl
   | cons i rest=>
    by_cases hw:((ops[i]?).map (Region.wanted · (yielded ops tmps))).getD false=true
    ·cases ho:ops[i]? with
     | none=>rw[ho] at hw;cases hw
     | some o=>
      have hop:OpN D o.op:=h o (Array.mem_of_getElem? ho);have main:=b7r hP hW hI rfl (by simp) (s:=execOp (Frame.eval ⟨fn,tmps,.inRegion ops (i::rest)::k,defers,.run,kind,none⟩) o) (b7o hP.toPN hop fun f=>rfl);refine StN.congr (fun κ cs=>?_) main;have e3:=Z8 ⟨fn,tmps,.inRegion ops (i::rest)::k,defers,.run,kind,none⟩ (kk l κ);rw[<-e3];show stepG.exec P true true ⟨fn,tmps,.inRegion ops (i::rest)::(k++kk l κ),defers,.run,kind,none⟩ (low l κ cs) none w=_;unfold stepG.exec;dsimp only;rw[if_pos hw];unfold stepG.oper;simp only[show(Frame.oper? ⟨fn,tmps,.inRegion ops (i::rest)::(k++kk l κ),defers,.run,kind,none⟩)=some o from ho];rfl
    ·have hF:=hI.fr.finish undef;refine .go (Frame.finish ⟨fn,tmps,.inRegion ops (i::rest)::k,defers,.run,kind,none⟩ undef) l w #[] (fun κ cs=>?_) ⟨hF.1,hI.low⟩ (Rows.refl w) (by simp);unfold Gr;rw[<-L9 (by simp)];show stepG.exec P true true ⟨fn,tmps,.inRegion ops (i::rest)::(k++kk l κ),defers,.run,kind,none⟩ (low l κ cs) none _=_;unfold stepG.exec;dsimp only;rw[if_neg hw]
     rfl
  | code c hc=>
   cases c with
   | skip=>exact a03 hI hk fun _ _=>rfl
   | label _=>exact a03 hI hk fun _ _=>rfl
   | seq a b=>exact a03 hI (c2 (.code _ hc.1) (.code _ hc.2)) fun _ _=>rfl
   | cond c a b=>
    by_cases ht:∃t,Frame.eval ⟨fn,tmps,.code (.cond c a b)::k,defers,.run,kind,none⟩ c=.bool t
    ·obtain⟨t,ht⟩:=ht;refine a03 hI (k:=.code (if t then a else b)::k) (c1 (.code _ ?_)) fun κ cs=>?_
     ·split
      ·exact hc.1
      ·exact hc.2
     ·rw[<-Z8 _ (kk l κ)] at ht;unfold stepG.exec ext;dsimp only[List.cons_append];dsimp only[ext,List.cons_append] at ht;rw[ht];rfl
    ·refine .stop fun cs=>?_;rw[<-Z8 _ (kk l K0)] at ht;unfold stepG.exec ext;dsimp only[ext,List.cons_append] at ht⊢;split
     ·rename_i t e;exact absurd ⟨t,e⟩ ht
     ·trivial
   | block id b=>exact a03 hI (c2 (.code b hc) (.inBlock id)) fun _ _=>rfl
   | loop b=>exact a03 hI (c2 (.code b hc) (.inLoop b hc)) fun _ _=>rfl
   | scope b=>exact a03 hI (c2 (.code b hc) (.inScope b hc)) fun _ _=>rfl
   | ret=>exact b5I hI fun _ _=>rfl
   | refuse why=>exact .stop fun _=>trivial
   | exit id=>
    cases e:exitTo id k with
    | none=>
     refine .stop fun cs=>?_;show Stops (stepG.exec P true true ⟨fn,tmps,.code (.exit id)::(k++kk l K0),defers,.run,kind,none⟩ _ none _);unfold stepG.exec;dsimp only
     cases l with
     | nil=>rw[show exitTo id (k++kk [] K0)=none from a2x e];trivial
     | cons c l=>rw[show exitTo id (k++kk (c::l) K0)=none by rw[show kk (c::l) K0=[] from rfl,List.append_nil];exact e];trivial
    | some k'=>
     refine a03 hI (fun y hy=>hk y (a1k e y hy)) fun κ cs=>?_;show stepG.exec P true true ⟨fn,tmps,.code (.exit id)::(k++kk l κ),defers,.run,kind,none⟩ _ none _=_;unfold stepG.exec;dsimp only;rw[a0M _ e]
     rfl
   | goto l0=>
    cases e:gotoIn l0 k with
    | none=>
     refine .stop fun cs=>?_;show Stops (stepG.exec P true true ⟨fn,tmps,.code (.goto l0)::(k++kk l K0),defers,.run,kind,none⟩ _ none _);unfold stepG.exec;dsimp only
     cases l with
     | nil=>rw[show gotoIn l0 (k++kk [] K0)=none from a2y e];trivial
     | cons c l=>rw[show gotoIn l0 (k++kk (c::l) K0)=none by rw[show kk (c::l) K0=[] from rfl,List.append_nil];exact e];trivial
    | some k'=>
     refine a03 hI (b4z hk e) fun κ cs=>?_;show stepG.exec P true true ⟨fn,tmps,.code (.goto l0)::(k++kk l κ),defers,.run,kind,none⟩ _ none _=_;unfold stepG.exec;dsimp only;rw[a3x _ e]
     rfl
   | region id ops draw=>
    cases draw with
    | false=>exact a03 hI (c1 (.inRegion ops _ hc)) fun _ _=>rfl
    | true=>
     exact .go ⟨fn,tmps,.inRegion ops (Region.schedule (P.follows .mixedOrders) ops ((Question.order fn id).cut (w.tape w.drawn (.order fn id))))::k,defers,.run,kind,none⟩ l {w with drawn:=w.drawn+1} #[] (fun κ cs=>rfl) ⟨⟨c1 (.inRegion ops _ hc),hf.defers,hf.mode,hf.kind,hf.round⟩,hI.low⟩ ⟨Nat.le_refl _,fun _ h=>h⟩ (by simp)
   | rangeFunc f params assign body=>exact hc.elim
theorem b4A{fr:Frame}{l:List Frame}{w:World}(hI:NInv D fr l)(hm:fr.mode=.returning)(hne:l≠[]):
 StN D l w (fun κ cs=>unwind P true (ext fr (kk l κ)) (low l κ cs) none w):=by
 have em:∀k,(ext fr k).mode=.returning:=fun _=>hm;have ed:∀k,(ext fr k).defers=[]:=fun _=>hI.fr.defers;have en:∀k,(ext fr k).fn=fr.fn:=fun _=>rfl;have et:∀k,(ext fr k).tmps=fr.tmps:=fun _=>rfl
 cases l with
 | nil=>exact absurd rfl hne
 | cons c l=>
  obtain⟨hc,hcm,hcn⟩:=hI.low c (by simp);have hl:∀x∈l,FrN D x/\x.mode=.run/\x.todo≠[]:=fun x hx=>hI.low x (by simp[hx])
  cases hfn:P.funcs[fr.fn]? with
  | none=>
   refine .go (c.finish (fr.tmps.getD 0 undef)) l w #[] (fun κ cs=>?_) ⟨(hc.finish _).1,hl⟩ (Rows.refl w) (by simp);unfold unwind;rw[ed,em];dsimp only;rw[en,hfn];dsimp only;unfold doReturn;rw[show(ext fr (kk (c::l) κ)).kind=.normal from hI.fr.kind];rw[a2m];dsimp only;rw[L9 hcn]
   rfl
  | some fn=>
   obtain⟨⟨r,es⟩,hT⟩:∃x,(results fn fr.tmps).runT P w #[]=x:=⟨_,rfl⟩;have hs:=b4y (P:=P) fn fr.tmps;obtain⟨hr,-⟩:=hs.run w #[];rw[hT] at hr
   cases r with
   | ok v u=>
    obtain⟨-,hsz,hev⟩:=hs.low hT;refine .go (c.finish v) l u (seen P fr.fn es++#[]) (fun κ cs=>?_) ⟨(hc.finish _).1,hl⟩ hr (a2e (hev (by simp)));unfold unwind;rw[ed,em];dsimp only;rw[en,hfn];dsimp only;rw[et,hT]
    exact Zn.ret_go P (fr:=ext fr (kk (c::l) κ)) hI.fr.kind hcn v _ κ cs _
   | halt x u=>
    refine .stop fun cs=>?_;unfold unwind;rw[ed,em];dsimp only;rw[en,hfn];dsimp only;rw[et,hT];cases x<;>trivial
theorem b9Y(hP:PNC D P){fr:Frame}{l:List Frame}{w:World}(hW:∀g,g<P.globals.size->IsRow w g)(hI:NInv D fr l)(hne:¬Stop fr l):
 StN D l w (fun κ cs=>stepG P true (Gr fr l κ cs) w):=by
 rcases hI.fr.mode with hm|hm
 ·refine StN.congr (fun κ cs=>?_) (b9X hP hW hI hm fun h=>hne ⟨h.1,.inl ⟨hm,h.2⟩⟩);unfold stepG Gr;dsimp only;rw[show(ext fr (kk l κ)).mode=.run from hm]
 ·refine StN.congr (fun κ cs=>?_) (b4A (P:=P) hI hm fun h=>hne ⟨h,.inr ⟨hm,hI.fr.defers⟩⟩);unfold stepG Gr;dsimp only;rw[show(ext fr (kk l κ)).mode=.returning from hm]
end
section
open Zn (ext kk low Gr K0 c0 Stops Stop a5N Dead a0y a1j raise_mode a1A P5 a07 U8 a2F a0R a2m a3p)
variable{P:Program}{D:Disc}{A:Frame->World->Prop}
inductive Way(P:Program)(A:Frame->World->Prop):Frame->List Frame->World->Prop
 | stop (fr:Frame) (w:World) (h:A (ext fr K0) w):Way P A fr [] w
 | step (fr:Frame) (l:List Frame) (w:World) (fr':Frame) (l':List Frame) (w':World) (es:Array Event) (h:∀κ cs,stepG P true (Gr fr l κ cs) w=.go (Gr fr' l' κ cs) w' es) (hr:Rows w w') (he:∀e∈es,a02 w'.heap.size e) (k:Way P A fr' l' w'):Way P A fr l w
section
variable(hA:∀F w,A F w->∀c,F.mode≠.panicking c)
include hA
theorem b2W:∀(l:List Frame)(fr:Frame)(w:World)(c:List PanicEntry),fr.mode=.panicking c->fr.defers=[]->(∀x∈l,FrN D x/\x.mode=.run/\x.todo≠[])->Dead P A (lone (ext fr (kk l K0)) (low l K0 [c0]) w):=by
 intro l
 induction l with
 | nil=>
  intro fr w c hm hd _;have hst:=a0R (P:=P) (F:=ext fr (kk [] K0)) (cs:=low [] K0 [c0]) (w:=w) (c:=c) hm;by_cases hc:(ext fr (kk [] K0)).catches P=true
  ·refine P5 (U8 hA hm) hst ?_;unfold unwind;rw[show(ext fr (kk [] K0)).defers=[] from hd,show(ext fr (kk [] K0)).mode=.panicking c from hm];dsimp only;rw[if_pos hc];trivial
  ·refine a07 (U8 hA hm) (F':=c0.raise c) (cs':=[]) (w':=w) (es:=#[]) (hst.trans ?_) a2F;unfold unwind;rw[show(ext fr (kk [] K0)).defers=[] from hd,show(ext fr (kk [] K0)).mode=.panicking c from hm];dsimp only;rw[if_neg hc]
   rfl
 | cons x l ih=>
  intro fr w c hm hd hl;have hst:=a0R (P:=P) (F:=ext fr (kk (x::l) K0)) (cs:=low (x::l) K0 [c0]) (w:=w) (c:=c) hm;by_cases hc:(ext fr (kk (x::l) K0)).catches P=true
  ·refine P5 (U8 hA hm) hst ?_;unfold unwind;rw[show(ext fr (kk (x::l) K0)).defers=[] from hd,show(ext fr (kk (x::l) K0)).mode=.panicking c from hm];dsimp only;rw[if_pos hc];trivial
  ·obtain⟨c',h1,h2⟩:=raise_mode x c;have hx:=hl x (by simp);refine a07 (U8 hA hm) (F':=ext (x.raise c) (kk l K0)) (cs':=low l K0 [c0]) (w':=w) (es:=#[]) (hst.trans ?_) (ih (x.raise c) w c' h1 (h2.trans hx.1.defers) fun y hy=>hl y (by simp[hy]));unfold unwind;rw[show(ext fr (kk (x::l) K0)).defers=[] from hd,show(ext fr (kk (x::l) K0)).mode=.panicking c from hm];dsimp only;rw[if_neg hc,a2m];dsimp only;rw[a1j]
omit hA in
theorem b4B{fr:Frame}{w:World}(hI:NInv D fr [])(hs:Stop fr [])(hn:¬A (ext fr K0) w):Dead P A (lone (ext fr K0) [c0] w):=by
 have h0:¬a5N A (lone (ext fr K0) [c0] w):=by
  rintro⟨F',w',e,ha⟩;obtain⟨rfl,-,rfl⟩:=a1A e;exact hn ha
 have hk:=hI.fr.kind;have hdead:∀(v:Value)(w:World),Dead P A (lone (c0.finish v) [] w):=fun v w=>P5 a3p rfl (by
  unfold stepG c0 Frame.finish K0;dsimp only;unfold stepG.exec;trivial)
 rcases hs.2 with⟨hm,ht⟩|⟨hm,hd⟩
 ·refine P5 h0 rfl ?_;obtain⟨fn,tmps,todo,defers,mode,kind,roundOf⟩:=fr;dsimp only at hm ht;subst hm ht;trivial
 ·have hst:stepG P true {frame:=ext fr K0,callers:=[c0],status:=.running,dying:=none} w=unwind P true (ext fr K0) [c0] none w:=by
   unfold stepG;dsimp only;rw[show(ext fr K0).mode=.returning from hm]
  have ed:(ext fr K0).defers=[]:=hd;have em:(ext fr K0).mode=.returning:=hm;have ek:(ext fr K0).kind=.normal:=hk
  cases hfn:P.funcs[fr.fn]? with
  | none=>
   refine a07 h0 (hst.trans ?_) (hdead ((ext fr K0).tmps.getD 0 undef) w) (es:=#[]);unfold unwind;rw[ed,em];dsimp only;rw[show(ext fr K0).fn=fr.fn from rfl,hfn];dsimp only;unfold doReturn
   rw[ek]
  | some fn=>
   cases hr:(results fn (ext fr K0).tmps).runT P w #[] with
   | mk r es=>
   cases r with
   | ok v u=>
    refine a07 h0 (hst.trans ?_) (hdead v u) (es:=seen P fr.fn es++#[]);unfold unwind;rw[ed,em];dsimp only;rw[show(ext fr K0).fn=fr.fn from rfl,hfn];dsimp only;rw[hr];dsimp only;unfold doReturn;rw[ek]
    rfl
   | halt x u=>
    refine P5 h0 hst ?_;unfold unwind;rw[ed,em];dsimp only;rw[show(ext fr K0).fn=fr.fn from rfl,hfn];dsimp only;rw[hr];cases x<;>trivial
theorem way_of_run(hP:PNC D P):∀(n:Nat)(fr:Frame)(l:List Frame)(w:World),(∀g,g<P.globals.size->IsRow w g)->NInv D fr l->(∃m',runN P n (lone (ext fr (kk l K0)) (low l K0 [c0]) w)=.next m'/\a5N A m')->Way P A fr l w:=by
 intro n
 induction n with
 | zero=>
  rintro fr l w hW hI ⟨m',hr,F,w',rfl,ha⟩;simp only[runN] at hr;injection hr with hr;obtain⟨rfl,e1,rfl⟩:=a1A hr
  cases l with
  | nil=>exact .stop fr w ha
  | cons x l=>
   have:=congrArg List.length e1
   cases l<;>simp[low] at this
 | succ n ih=>
  intro fr l w hW hI ⟨m',hr,harr⟩;by_cases h0:a5N A (lone (ext fr (kk l K0)) (low l K0 [c0]) w)
  ·obtain⟨F,w',e,ha⟩:=h0;obtain⟨rfl,e1,rfl⟩:=a1A e
   cases l with
   | nil=>exact .stop fr w ha
   | cons x l=>
    have:=congrArg List.length e1;cases l<;>simp[low] at this
  by_cases hs:Stop fr l
  ·obtain rfl:l=[]:=hs.1;exact absurd harr (b4B hI hs (fun h=>h0 ⟨_,_,rfl,h⟩) (n+1) m' hr)
  cases b9Y hP hW hI hs with
  | go fr' l' w' es h hI' hro he=>
   refine .step fr l w fr' l' w' es h hro he (ih fr' l' w' (fun g hg=>hro.2 g (hW g hg)) hI' ⟨m',?_,harr⟩);have e1:step P (lone (ext fr (kk l K0)) (low l K0 [c0]) w)=.next (lone (ext fr' (kk l' K0)) (low l' K0 [c0]) w'):=step_lone_go (by
    have:=h K0 [c0];show(stepG P true (Gr fr l K0 [c0]) w).bare=_;rw[this];rfl)
   simp only[runN,e1] at hr
   exact hr
  | bad fr' c w' es h hm hd=>
   exact absurd harr (a07 h0 (h K0 [c0]) (b2W hA l fr' w' c hm hd hI.low) (n+1) m' hr)
  | stop h=>exact absurd harr (P5 h0 rfl (h [c0]) (n+1) m' hr)
end
end
section
open Go.Conc
open Zn (ext kk low Gr K0 c0 MarkOK)
open To (Shn Ctx)
set_option linter.unusedSectionVars false
variable[To.Lo]{P:Program}{D:Disc}{A:Frame->World->Prop}
theorem a8J(l:Loc):¬Shn (fun _=>False) l:=by cases l<;>first|exact fun h=>h.2|exact id
theorem b2X{B:Nat}{e:Event}(h:a02 B e):EvL (Shn fun _=>False) B e:=by
 refine⟨fun x _ hs=>absurd hs (a8J _),?_,?_,?_⟩
 ·rintro he;unfold a02 at h;rw[he] at h;exact h
 ·rintro he;unfold a02 at h;rw[he] at h;exact h
 ·obtain⟨loc,wr,sy⟩:=e;unfold a02 at h
  cases loc with
  | cell a=>cases wr<;>cases sy<;>exact h
  | obj r=>cases wr<;>cases sy<;>first|exact h|trivial
  | mark m=>cases m<;>first|exact(h:False).elim|trivial
  | output=>cases wr<;>cases sy<;>trivial
  | goroutines=>exact(h:False).elim
theorem ctx_nil(g:Goroutine)(B:Nat)(hlo:To.Lo.n<=B):Ctx P (fun _=>False) #[g] #[] (fun _=>0) B:=by
 have e:Shn (fun _=>False)=fun _=>False:=by funext l;exact eq_false (a8J l)
 exact⟨leavers_one P g,e▸past_nil.mono (Nat.zero_le B),fun i op hi=>by simp at hi,hlo⟩
theorem ctx_more{Sh Sh':Nat->Prop}{gs:Array Goroutine}{t:Trace}{q:Nat->Nat}{B:Nat}(h:Ctx P Sh gs t q B)(hs:∀b,Sh b->Sh' b):Ctx P Sh' gs t q B:=
 ⟨h.L,⟨h.past.clean,fun i a ha hm=>(h.past.known i a ha hm).imp id fun⟨h1,h2⟩=>⟨by
  revert h1;cases a.loc<;>first|exact fun h=>⟨h.1,hs _ h.2⟩|exact id,h2⟩,h.past.over,h.past.hears,h.past.seen⟩,h.gsb,h.lo⟩
theorem b0r:Shn (fun _=>False)=fun _=>False:=funext fun l=>eq_false (a8J l)
theorem ctx_none{gs:Array Goroutine}{t:Trace}{q:Nat->Nat}{B:Nat}(h:Ctx P (fun _=>False) gs t q B):Leavers P t gs q/\Past (fun _=>False) B t/\∀(i:Nat)(op:MemOp),t[i]?=some op->op.g<gs.size:=⟨h.L,b0r▸h.past,h.gsb⟩
theorem ctx_of{gs:Array Goroutine}{t:Trace}{q:Nat->Nat}{B:Nat}(h:Leavers P t gs q/\Past (fun _=>False) B t/\∀(i:Nat)(op:MemOp),t[i]?=some op->op.g<gs.size)(hlo:To.Lo.n<=B):Ctx P (fun _=>False) gs t q B:=⟨h.1,b0r.symm▸h.2.1,h.2.2,hlo⟩
theorem Way.runs{fr:Frame}{l:List Frame}{w:World}(h:Way P A fr l w)(κ:List Item)(cs:List Frame):∀(t:Trace),Ctx P (fun _=>False) #[Gr fr l κ cs] t (fun _=>0) w.heap.size->
 ∃N F w' t',A (ext F K0) w'/\runNT P N (solo (Gr fr l κ cs) w) t=(.next (solo (Gr F [] κ cs) w'),t')/\Ctx P (fun _=>False) #[Gr F [] κ cs] t' (fun _=>0) w'.heap.size/\Rows w w':=by
 induction h with
 | stop fr w h=>exact fun t hc=>⟨0,fr,w,t,h,rfl,hc,Rows.refl w⟩
 | step fr l w fr' l' w' es h hr he k ih=>
  intro t hc;have hst:=runT_solo_go (h κ cs);have hc':=hc.own (g:=Gr fr l κ cs) (a':=Gr fr' l' κ cs) (w':=w') (fn:=(Gr fr l κ cs).frame.fn) (pos:=(Gr fr l κ cs).frame.place) (by simp) hr.1 fun e hx=>b2X (he e hx);have e1:((#[Gr fr l κ cs].map (woken P (Gr fr l κ cs) (Gr fr' l' κ cs) w')).setIfInBounds 0 (Gr fr' l' κ cs))=#[Gr fr' l' κ cs]:=by simp[Array.setIfInBounds]
  rw[e1] at hc';obtain⟨N,F,w2,t2,a1,a2,a3,a4⟩:=ih _ hc';refine⟨N+1,F,w2,t2,a1,?_,a3,hr.trans a4⟩;simp only[runNT];rw[stepT_solo rfl,hst];exact a2
end
end Go.Nm
namespace Go.Fs
section
open Go.Conc
open Zn (Gr tp tp_self)
open To (To ToB Ctx Shn)
set_option linter.unusedSectionVars false
variable{P:Program}{Post:Value->World->Prop}
abbrev lo0:To.Lo:=⟨0⟩
def Fin(P:Program)(Post:Value->World->Prop)(g:Goroutine)(w:World)(t:Trace):Prop:=
 ∃M last o w' t',runNT P (M+1) (solo g w) t=(.ended o w',t')/\runN P M (solo g w)=.next last/\step P last=.ended o w'/\Conc.Good P Post last o w' t'
def So(P:Program)(Post:Value->World->Prop)(g:Goroutine)(w:World):Prop:=∀t,@Ctx lo0 P (fun _=>False) #[g] t (fun _=>0) w.heap.size->Fin P Post g w t
theorem So.mono{Post':Value->World->Prop}{g:Goroutine}{w:World}(h:So P Post g w)(hp:∀v w',Post v w'->Post' v w'):So P Post' g w:=fun t hc=>by
 obtain⟨M,last,o,w',t',h1,h2,h3,h4⟩:=h t hc;exact⟨M,last,o,w',t',h1,h2,h3,h4.mono fun v=>hp v w'⟩
theorem So.fin{g:Goroutine}{w:World}(h:So P Post g w):Fin P Post g w #[]:=h #[] (@Nm.ctx_nil lo0 P g _ (Nat.zero_le _))
theorem Fin.of_run{N:Nat}{g g':Goroutine}{w w':World}{t t':Trace}(h:runNT P N (solo g w) t=(.next (solo g' w'),t'))(k:Fin P Post g' w' t'):Fin P Post g w t:=by
 obtain⟨M,last,o,w2,t2,h1,h2,h3,h4⟩:=k;refine⟨N+M,last,o,w2,t2,?_,?_,h3,h4⟩
 ·rw[show N+M+1=N+(M+1) by omega,runNT_add,h];exact h1
 ·have e:runN P N (solo g w)=.next (solo g' w'):=by rw[<-runNT_fst P N _ t,h]
  rw[runN_add,e];exact h2
theorem So.move{g g':Goroutine}{w:World}(hrun:g.status=.running)(h:∀w,stepG P true g w=.go g' w)(k:So P Post g' w):So P Post g w:=by
 intro t hc;letI:=lo0
 have hst:=runT_solo_go (P:=P) (h w);have hc':=hc.own (g:=g) (a':=g') (w':=w) (es:=#[]) (fn:=g.frame.fn) (pos:=g.frame.place) (by simp) (Nat.le_refl _) (fun e he=>by simp at he);have e1:((#[g].map (woken P g g' w)).setIfInBounds 0 g')=#[g']:=by simp[Array.setIfInBounds]
 rw[e1] at hc';have:=k _ hc';refine Fin.of_run (N:=1) ?_ this;simp only[runNT];rw[stepT_solo hrun,hst]
theorem So.piece{D:Nm.Disc}(hP:Nm.PNC D P){c:Code}(hc:Nm.CodeN D c){a:Act}{w:World}(hd:a.defers=[])(hW:∀g,g<P.globals.size->Nm.IsRow w g){Q0:Exit->Act->World->Prop}(h:c.wp P Q0 a w)(hQ:∀e a' w',Q0 e a' w'->e=.normal\/e=.ret)(b:Frame)(hk:b.kind=.normal)(k:List Item)(cs:List Frame)
 (next:∀a' w',Q0 .normal a' w'->Nm.Rows w w'->So P Post (G (b.at a' k) cs) w')(back:∀a' w' todo,Q0 .ret a' w'->Nm.Rows w w'->So P Post (G {b.at a' todo with mode:=.returning} cs) w'):So P Post (G (b.at a (.code c::k)) cs) w:=by
 intro t hx;letI:=lo0
 let A:Frame->World->Prop:=fun F w'=>∃a',(F=b.at a' Zn.K0/\Q0 .normal a' w')\/(∃todo,F={b.at a' todo with mode:=.returning}/\Q0 .ret a' w')
 have hA:∀F w',A F w'->∀c,F.mode≠.panicking c:=by
  rintro F w' ⟨a',⟨rfl,_⟩|⟨todo,rfl,_⟩⟩ c h
  ·cases h
  ·cases h
 have hI:Nm.NInv D (b.at a [.code c]) []:=⟨⟨fun x hx=>by
  obtain rfl:x=.code c:=by simpa [Frame.at] using hx
  exact .code c hc,hd,.inl rfl,hk,rfl⟩,fun x hx=>by cases hx⟩
 have hw:Nm.Way P A (b.at a [.code c]) [] w:=by
  obtain⟨e,a',w',hq,har⟩:=h b Zn.K0 [Zn.c0];rcases hQ _ _ _ hq with rfl|rfl
  ·obtain⟨n,hr⟩:=har;exact Nm.way_of_run hA hP n _ [] w hW hI ⟨_,hr,_,_,rfl,a',.inl ⟨rfl,hq⟩⟩
  ·obtain⟨todo,n,hr⟩:=har;exact Nm.way_of_run hA hP n _ [] w hW hI ⟨_,hr,_,_,rfl,a',.inr ⟨todo,rfl,hq⟩⟩
 obtain⟨N,F,w',t',⟨a',ha⟩,h1,h2,h3⟩:=hw.runs k cs t hx;rcases ha with⟨e,hq⟩|⟨todo,e,hq⟩
 ·obtain⟨f1,f2,f3,f4,f5,f6,f7⟩:=F;simp only[Zn.ext,Frame.at,Frame.mk.injEq] at e;obtain⟨rfl,rfl,e3,rfl,rfl,rfl,rfl⟩:=e;obtain rfl:=To.append_self e3;exact Fin.of_run h1 (next a' w' hq h3 t' h2)
 ·obtain⟨f1,f2,f3,f4,f5,f6,f7⟩:=F;simp only[Zn.ext,Frame.at,Frame.mk.injEq] at e;obtain⟨rfl,rfl,e3,rfl,rfl,rfl,rfl⟩:=e;exact Fin.of_run h1 (back a' w' (f3++k) hq h3 t' h2)
def b2v(P:Program)(Post:Value->World->Prop)(g:Goroutine)(w:World):Prop:=
 g.status=.running/\∃v,∀τ p,stepG P true g (tp w τ p)=.ended (.done v) (tp w τ p) #[]/\Post v (tp w τ p)
theorem So.to[To.Lo]{g:Goroutine}{w:World}{Sh:Nat->Prop}(hlo:To.Lo.n<=w.heap.size)(h:To P g w Sh fun g' w' _=>b2v P Post g' w'):So P Post g w:=by
 intro t hc;have hc':Ctx P Sh #[g] t (fun _=>0) w.heap.size:=Nm.ctx_more (Nm.ctx_of (@Nm.ctx_none lo0 _ _ _ _ _ hc) hlo) fun _ h=>h.elim;obtain⟨N,gs',w',sl',t',q',Sh',g',τ',p',h1,h2,h3,h4,v,h5⟩:=h w.tape w.drawn #[g] none t (fun _=>0) rfl hc';rw[tp_self] at h1;have hG:Goes P true AtRel (fun _ _ _=>False) (AtEnd P (Shn Sh') w'.heap.size Post) 0 g' (tp w' τ' p'):=by
  refine Goes.stop fun w₁ h₁=>?_;obtain⟨d,rfl⟩:=h₁;have:=h5 τ' d;exact⟨h4,v,#[],this.1,fun e he=>by simp at he,this.2⟩
 obtain⟨M,last,o,w2,t2,k1,k2,k3,k4⟩:=beside_ends (fun _ _ _ h=>h.elim) h2 h3.L h3.past hG (sl:=sl');refine⟨N+M,last,o,w2,t2,?_,?_,k3,k4⟩
 ·rw[show N+M+1=N+(M+1) by omega,runNT_add,solo_eq_crowd,h1];exact k1
 ·have e:runN P N (solo g w)=.next (crowd gs' (tp w' τ' p') sl'):=by rw[<-runNT_fst P N _ t,solo_eq_crowd,h1]
  rw[runN_add,e];exact k2
theorem ended_leave{b:Frame}{a:Act}{todo:List Item}{fn:Func}{v:Value}{w:World}(hn:b.kind=.normal)(hd:a.defers=[])(hf:P.funcs[b.fn]?=some fn)(hin:P.inits.idxOf? b.fn=none)
 (hr:ResultsC P fn a.tmps v)(hp:∀τ p,Post v (tp w τ p)):b2v P Post (G {b.at a todo with mode:=.returning} []) w:=by
 refine⟨rfl,v,fun τ p=>⟨?_,hp τ p⟩⟩;have h1:=(hr (tp w τ p)).1;have h2:=(hr (tp w τ p)).2;simp[G,stepG,unwind,doReturn,Frame.at,hn,hd,hf,h1,h2,hin,seen,GStep.after]
theorem So.ended{g:Goroutine}{w:World}(h:b2v P Post g w):So P Post g w:=@So.to P Post lo0 g w (fun _=>False) (Nat.zero_le _) (@To.To.done lo0 P g w (fun _=>False) _ h)
theorem to_body[To.Lo]{f:FuncId}{fn:Func}{c:Code}{a:Act}{w:World}{Sh:Nat->Prop}{b:Frame}(hb:b.fn=f)(hk:b.kind=.normal)(hf:P.funcs[f]?=some fn)(hin:P.inits.idxOf? f=none)
 (h:To.wpT P f c (To.bodyT P fn fun v w _=>∀τ p,Post v (tp w τ p)) a w Sh):To P (G (b.at a [.code c]) []) w Sh fun g' w' _=>b2v P Post g' w':=by
 refine h b [] [] _ hb hk ?_;intro e a' w' Sh' q
 cases e with
 | normal=>
  obtain⟨hd,v,hr,hp⟩:=q
  exact To.move rfl (fun _=>stepG_end) (To.done (ended_leave hk hd (by rw[hb];exact hf) (by rw[hb];exact hin) hr hp))
 | ret=>
  obtain⟨hd,v,hr,hp⟩:=q
  exact fun todo=>To.done (ended_leave hk hd (by rw[hb];exact hf) (by rw[hb];exact hin) hr hp)
 | exit id=>exact q.elim
 | goto l=>exact q.elim
 | panic ch=>exact q.elim
 | outgrown=>exact q.elim
section
variable{H:Type}{enc:TypeId×Value->H}
theorem returnsInLeaving_of_row{a:Assume}{C:Checked}{os:Os}{f:FuncId}{fn:Func}{s:OpenSpec}{F:Stop.Interp}{conds:List PathCond}{apart fresh handsOn again:Bool}{laid:List (String×DataW Unit)}
 (own:ownKnob C.prog.godebug=none)(started:os.Started)(hfn:C.prog.funcs[f]?=some fn)
 (witness:∃(w:World)(tape:Tape)(i:Input),w.os=os/\(w.forCall tape i).Shaped C.prog/\i.vars=[]/\Input.okWide C.prog (w.forCall tape i) .any w.heap.size f i/\
   s.preRow enc C.prog fn conds apart laid (w.forCall tape i).memory i.args/\a.holds C.prog (lone (Frame.enter C.prog f i.args .normal) [] (w.forCall tape i)))
 (runs:∀(W:World)(base:Nat)(args:Array Value)(ds gs:List (DataW H))(before:List MemPlace),
   (∀(j:Nat)t v,fn.params[j]?=some t->args[j]?=some v->Value.okWide C.prog W .any base t v)->
   DataW.Whole enc C.prog fn.params.toList s.vars apart W args.toList ds gs before->
   conds.all (PathCond.test C.prog ⟨fn.params.toList,ds,s.bare.plain.varTypes C.prog,gs⟩)=true->
   (∀k,s.cond=some k->k H (ds++gs)=true)->
   (DataW.weightsEach C.prog (fn.params.toList++s.bare.plain.varTypes C.prog) (ds++gs)).all (· ≤ reachBytes)=true->
   laidMetH C.prog laid W->
   W.ShapedOpen C.prog->
   a.holds C.prog (lone (Frame.enter C.prog f args .normal) [] W)->
   So C.prog (fun v W'=>(s.at F).post enc C.prog fn apart fresh handsOn again W args v W') (G (Frame.enter C.prog f args .normal) []) W):
 ReturnsInLeavingWide a C os f .any (s.preRow enc C.prog fn conds apart laid) ((s.at F).post enc C.prog fn apart fresh handsOn again):=by
 refine returnsInLeavingWide_of_good own started witness ?_;intro w tape i _ hsh _ hok hpre hholds;obtain⟨_,_,_,fn',hfn',_,_,_,_,hval⟩:=hok;have e:fn'=fn:=Option.some.inj (hfn'.symm.trans hfn);subst e;obtain⟨⟨hp,hl⟩,hz⟩:=hpre;obtain⟨ds,gs,before,hw,hc,hk⟩:=OpenSpec.pre_parts hp;have hw':=DataW.Whole.of_heap (w':=w.forCall tape i) (by rfl) hw;obtain⟨M,last,o,w',t',h1,h2,h3,h4⟩:=(runs (w.forCall tape i) w.heap.size i.args ds gs before hval hw' hc hk (hz.weights hw) (hl.of_heap (by rfl)) hsh hholds).fin;exact⟨M,last,o,w',t',h1,h2,h3,h4.mono fun v hp=>ChangeSpec.post_blind hp⟩
end
end
end Go.Fs
namespace Go.Nm
section
open Zn (MarkOK)
open Go.Extern Go.Extern.Rtype
set_option linter.unusedVariables false
section
variable{P:Program}
theorem a4p(a:String)(t:TypeId):Mf P (noPack a t):=by
 try unfold noPack
 repeat' first|assumption|with_reducible (first|refine Q8 _ ?_|exact o5 _|refine I9 ?_|refine F6 _ ?_ ?_)|split|dsimp only|exact trivial
theorem a8F(a:String)(t:TypeId):Mf P (noPackNamed a t):=by
 try unfold noPackNamed
 repeat' first|assumption|with_reducible (first|refine Q8 _ ?_|exact o5 _|refine I9 ?_|refine F6 _ ?_ ?_)|split|dsimp only|exact trivial
theorem a1f(a:String)(t:TypeId):Mf P (noPackMethods a t):=by
 try unfold noPackMethods
 repeat' first|assumption|with_reducible (first|refine Q8 _ ?_|exact o5 _|refine I9 ?_|refine F6 _ ?_ ?_)|split|dsimp only|exact trivial
theorem b2Q(t:TypeId):Mf P (spelt t):=by
 try unfold spelt
 repeat' first|assumption|with_reducible (first|exact a2b _|exact a8F _ _|refine l9 ?_ fun _=>?_)|split|dsimp only|exact trivial
theorem a5D(t:TypeId):Mf P (under t):=by
 try unfold under
 repeat' first|assumption|with_reducible (first|exact o5 _|exact J5 _|refine l9 ?_ fun _=>?_)|split|dsimp only|exact trivial
theorem a7S(t:TypeId):Mf P (kind t):=by
 try unfold kind
 repeat' first|assumption|with_reducible (first|exact y7 _|exact o5 _|exact a5D _|refine l9 ?_ fun _=>?_)|split|dsimp only|exact trivial
theorem b4v(t:TypeId):Mf P (hasName t):=by
 try unfold hasName
 repeat' first|assumption|with_reducible (first|exact o5 _|exact J5 _|refine l9 ?_ fun _=>?_)|split|dsimp only|exact trivial
theorem b2R(t:TypeId):Mf P (elem? t):=by
 first|unfold elem?|skip
 repeat' first|assumption|with_reducible (first|exact o5 _|exact a5D _|refine l9 ?_ fun _=>?_)|split|dsimp only|exact trivial
theorem a2D(t v:TypeId):Mf P (implements t v):=by
 try unfold implements
 repeat' first|assumption|with_reducible (first|exact o5 _|exact J5 _|exact a1f _ _|exact a5D _|refine l9 ?_ fun _=>?_)|split|dsimp only|exact trivial
theorem a7b(t v:TypeId):Mf P (directlyAssignable t v):=by
 try unfold directlyAssignable
 repeat' first|assumption|with_reducible (first|exact o5 _|exact a5D _|exact b4v _|refine l9 ?_ fun _=>?_|refine F6 _ ?_ ?_)|split|dsimp only|exact trivial
theorem a3Z(h:Value):Mf P (ofHandle h):=by
 try unfold ofHandle
 repeat' first|assumption|with_reducible (first|exact y7 _|exact o5 _|refine I9 ?_)|split|dsimp only|exact trivial
theorem b0p(t:TypeId):Mf P (handle t):=by
 try unfold handle
 repeat' first|assumption|with_reducible (first|exact o5 _|refine I9 ?_)|split|dsimp only|exact trivial
theorem a8G(n:String):Mf P (cutType n):=by
 try unfold cutType
 repeat' first|assumption|with_reducible (first|exact y7 _|exact o5 _|refine I9 ?_)|split|dsimp only|exact trivial
theorem a6y(t:TypeId):Mf P (ReflectliteType.toType t):=by
 try unfold ReflectliteType.toType
 repeat' first|assumption|with_reducible (first|exact o5 _|exact b0p _|exact a8G _|refine l9 ?_ fun _=>?_)|split|dsimp only|exact trivial
theorem b7k{args:Array Value}:Mf P (ReflectliteType.typeOf args):=by
 obtain⟨l⟩:=args;rcases l with _|⟨x,_|⟨y,l⟩⟩
 ·exact trivial
 ·cases x<;>first|exact a6y _|exact trivial
 ·cases x<;>exact trivial
theorem a5a(v:Value):Mf P (ReflectliteType.ofRtype v):=by
 cases v<;>first|exact trivial|skip
 rename_i c;obtain⟨l⟩:=c;rcases l with _|⟨x,_|⟨y,l⟩⟩
 ·exact trivial
 ·exact l9 (a3Z _) fun _=>l9 (a4p _ _) fun _=>trivial
 ·exact trivial
theorem b7l{f:TypeId->Sem Value}(hf:∀t,Mf P (f t))(args:Array Value):Mf P (ReflectliteType.method f args):=by
 obtain⟨l⟩:=args;rcases l with _|⟨x,_|⟨y,l⟩⟩
 ·exact trivial
 ·exact l9 (a5a _) fun t=>hf t
 ·exact trivial
theorem a7c{a:String}{f:TypeId->TypeId->Sem Bool}(hf:∀t u,Mf P (f t u))(args:Array Value):Mf P (ReflectliteType.relation a f args):=by
 obtain⟨l⟩:=args;rcases l with _|⟨x,_|⟨y,_|⟨z,l⟩⟩⟩
 ·exact trivial
 ·exact trivial
 ·cases y<;>first
   | exact l9 (a5a _) fun _=>l9 (a5a _) fun _=>l9 (hf _ _) fun _=>trivial
   | (unfold ReflectliteType.relation panicString;repeat' first|exact trivial|(with_reducible refine I9 ?_)|(with_reducible refine l9 ?_ fun _=>?_))
   | exact trivial
 ·cases y<;>exact trivial
theorem b1v{f:TypeId->Sem Value}(hf:∀t,Mf P (f t))(args:Array Value):Mf P (ReflectliteType.abiMethod f args):=by
 obtain⟨l⟩:=args;rcases l with _|⟨x,_|⟨y,l⟩⟩
 ·exact trivial
 ·exact l9 (a3Z _) fun t=>l9 (a4p _ _) fun _=>hf t
 ·exact trivial
theorem a2d{α:Type}(s:String):Mf P (panicString s:Sem α):=by
 try unfold panicString
 repeat' first|assumption|with_reducible (first|exact a4W _|refine I9 ?_)|split|dsimp only|exact trivial
theorem b9R(t:TypeId):Mf P (ReflectliteType.elem t):=by
 try unfold ReflectliteType.elem
 repeat' first|assumption|with_reducible (first|exact b2Q _|exact b2R _|exact a6y _|exact a2d _|refine l9 ?_ fun _=>?_)|split|dsimp only|exact trivial
theorem a8H(u t:TypeId):Mf P (ReflectliteType.implements_ u t):=by
 try unfold ReflectliteType.implements_
 repeat' first|assumption|with_reducible (first|exact a4p _ _|exact a1f _ _|exact a7S _|exact a2D _ _|exact a2d _|refine l9 ?_ fun _=>?_|refine F6 _ ?_ ?_)|split|dsimp only|exact trivial
theorem a7C(u t:TypeId):Mf P (ReflectliteType.assignableTo u t):=by
 try unfold ReflectliteType.assignableTo
 repeat' first|assumption|with_reducible (first|exact o5 _|exact a1f _ _|exact a2D _ _|exact a7b _ _|refine l9 ?_ fun _=>?_|refine F6 _ ?_ ?_)|split|dsimp only|exact trivial
theorem c2N(t:TypeId){a:Addr}(fl:Nat):Mf P (ReflectliteValue.mk t a fl):=by
 try unfold ReflectliteValue.mk
 repeat' first|assumption|with_reducible (first|exact o5 _|exact a7S _|exact b0p _|refine l9 ?_ fun _=>?_)|split|dsimp only|exact trivial
theorem b0q{v:Value}:Mf P (ReflectliteValue.unpack v):=by
 try unfold ReflectliteValue.unpack
 repeat' first|assumption|with_reducible (first|exact y7 _|exact o5 _|exact a1U _|exact c2N _ _|refine l9 ?_ fun _=>?_)|split|dsimp only|exact trivial
theorem a0C{α:Type}(m:String)(k:Nat):Mf P (ReflectliteValue.valueError m k:Sem α):=by
 try unfold ReflectliteValue.valueError
 repeat' first|assumption|with_reducible (first|exact a4W _|exact a6p _|exact a1U _|exact a8G _|refine l9 ?_ fun _=>?_)|split|dsimp only|exact trivial
theorem a7d{v:Value}:Mf P (ReflectliteValue.partsAny v):=by
 have key:∀(hd:Value)(a:Addr)(f:Nat),Mf P (do pure (some (<-ofHandle hd,a,f)):Sem (Option (TypeId×Addr×Nat))):=fun hd a f=>l9 (a3Z _) fun _=>trivial;cases v<;>first|exact trivial|skip
 rename_i c;obtain⟨l⟩:=c;rcases l with _|⟨x,_|⟨y,_|⟨z,_|⟨u,l⟩⟩⟩⟩
 ·exact trivial
 ·exact trivial
 ·exact trivial
 ·cases z<;>first|exact trivial|skip
  rename_i k n;cases k<;>first|exact trivial|skip
  cases n with
  | ofNat n=>
   cases n with
   | zero=>exact trivial
   | succ n=>
    cases y<;>first|exact trivial|skip
    rename_i p
    cases p with
    | none=>exact trivial
    | some a=>exact key x a (n+1)
  | negSucc n=>
   cases y<;>first|exact trivial|skip
   rename_i p
   cases p with
   | none=>exact trivial
   | some a=>exact key x a _
 ·cases z<;>exact trivial
theorem a5E{v:Value}:Mf P (ReflectliteValue.parts v):=by
 try unfold ReflectliteValue.parts
 repeat' first|assumption|with_reducible (first|exact o5 _|exact a4p _ _|exact a7d|refine l9 ?_ fun _=>?_)|split|dsimp only|exact trivial
theorem b7m(t:TypeId){a:Addr}(fl k:Nat):Mf P (ReflectliteValue.isNil t a fl k):=by
 try unfold ReflectliteValue.isNil
 repeat' first|assumption|with_reducible (first|exact o5 _|exact a0L _|exact a0C _ _|refine l9 ?_ fun _=>?_|refine F6 _ ?_ ?_)|split|dsimp only|exact trivial
theorem b9S(t:TypeId){a:Addr}(fl k:Nat):Mf P (ReflectliteValue.elem t a fl k):=by
 try unfold ReflectliteValue.elem
 repeat' first|assumption|with_reducible (first|exact o5 _|exact a0L _|exact b2R _|exact c2N _ _|exact b0q|exact a0C _ _|refine l9 ?_ fun _=>?_|refine F6 _ ?_ ?_)|split|dsimp only|exact trivial
theorem c3S{args:Array Value}:Mf P (ReflectliteValue.set args):=by
 obtain⟨l⟩:=args;rcases l with _|⟨x,_|⟨y,_|⟨z,l⟩⟩⟩
 ·exact trivial
 ·exact trivial
 ·unfold ReflectliteValue.set;refine l9 a5E fun o=>l9 a5E fun o'=>?_
  cases o with
  | none=>exact trivial
  | some o=>
   cases o' with
   | none=>exact trivial
   | some o'=>
    obtain⟨dst,a,fl⟩:=o;obtain⟨src,b,fl'⟩:=o';dsimp only;repeat' first|assumption|with_reducible (first|refine Q8 _ ?_|exact o5 _|exact a0L _|exact a6T _|exact b2Q _|exact a7S _|exact a2D _ _|exact a7b _ _|exact a2d _|exact a5E|refine l9 ?_ fun _=>?_|refine F6 _ ?_ ?_)|split|dsimp only|exact trivial
 ·exact trivial
end
end
end Go.Nm
