/- A part of what the last file proves. -/
import Derived.Test.YtgpbhjjajpbeeaaGreatDoorK05
import Derived.Test.YtgpbhjjajpbeeaaGreatDoorK07
import Derived.Conc.Listed
set_option linter.all false
namespace Go.Zn
section
variable{Z:Zone}{P:Program}
def OpU(X:Tmp->Prop)(o:Op):Prop:=∀x∈o.operands,∀t,x=.tmp t->X t
def CodeU(X:Tmp->Prop):Code->Prop
 | .seq a b=>CodeU X a/\CodeU X b
 | .cond _ a b=>CodeU X a/\CodeU X b
 | .block _ b=>CodeU X b
 | .loop b=>CodeU X b
 | .scope b=>CodeU X b
 | .region _ ops _=>∀o∈ops,OpU X o.op
 | .rangeFunc _ _ assign body=>(∀t,X t)/\CodeU X assign/\CodeU X body
 | _=>True
def Full:Tmp->Prop:=fun _=>True
theorem c0N(o:Op):OpU Full o:=fun _ _ _ _=>trivial
theorem codeU_full(c:Code):CodeU Full c:=by
 induction c with
 | seq a b iha ihb=>exact⟨iha,ihb⟩
 | cond _ a b iha ihb=>exact⟨iha,ihb⟩
 | block _ b ih=>exact ih
 | loop b ih=>exact ih
 | scope b ih=>exact ih
 | region _ ops _=>exact fun o _=>c0N _
 | rangeFunc f _ a b iha ihb=>exact⟨fun _=>trivial,iha,ihb⟩
 | _=>trivial
inductive V9(Z:Zone)(X:Tmp->Prop):Item->Prop
 | code (c:Code) (h:CodeP Z c) (hu:CodeU X c):V9 Z X (.code c)
 | inBlock (id:Nat):V9 Z X (.inBlock id)
 | inLoop (c:Code) (h:CodeP Z c) (hu:CodeU X c):V9 Z X (.inLoop c)
 | inScope (c:Code) (h:CodeP Z c) (hu:CodeU X c):V9 Z X (.inScope c)
 | inRegion (ops:Array Oper) (l:List Nat) (h:∀o∈ops,OpP Z o.op) (hu:∀o∈ops,OpU X o.op):V9 Z X (.inRegion ops l)
 | inRangeFunc (l:Nat) (h:Z.D l):V9 Z X (.inRangeFunc l)
 | endRangeFunc (l:Nat) (h:Z.D l):V9 Z X (.endRangeFunc l)
 | beginRound:V9 Z X .beginRound
structure FrP(Z:Zone)(X:Tmp->Prop)(fr:Frame):Prop where
 tmps:∀t,X t->VP Z (fr.tmps.getD t undef)
 todo:∀x∈fr.todo,V9 Z X x
 defers:MarksP Z fr.defers
 mode:fr.mode=.run\/fr.mode=.returning
 kind:fr.kind=.normal
 round:∀l,fr.roundOf=some l->Z.D l
theorem b44{X:Tmp->Prop}{c:Code}(h:b23 c):V9 Z X (.code c):=by
 cases c<;>first|exact(h:False).elim|exact .code _ trivial trivial
theorem b5T{c:Array Value}(h:∀t,Full t->VP Z (c.getD t undef)):AP Z c:=fun x hx=>by
 obtain⟨i,hi,rfl⟩:=Array.mem_iff_getElem.1 hx;have:=h i trivial;simpa [Array.getD_eq_getD_getElem?,hi] using this
def xx(l:List Frame)(X:Tmp->Prop):Tmp->Prop:=match l with
 | []=>X
 | _::_=>Full
def FrL(Z:Zone)(X:Tmp->Prop)(fr:Frame)(l:List Frame):Prop:=FrP Z (xx l X) fr/\(l=[]->fr.roundOf=none)
def b1E(Z:Zone)(X:Tmp->Prop):List Frame->Prop
 | []=>True
 | x::l=>(FrL Z X x l/\x.mode=.run/\x.todo≠[])/\b1E Z X l
def kk(l:List Frame)(κ:List Item):List Item:=match l with
 | []=>κ
 | _::_=>[]
def ext(fr:Frame)(k:List Item):Frame:={fr with todo:=fr.todo++k}
def low:List Frame->List Item->List Frame->List Frame
 | [],_,cs=>cs
 | x::l,κ,cs=>ext x (kk l κ)::low l κ cs
def Gr(fr:Frame)(l:List Frame)(κ:List Item)(cs:List Frame):Goroutine:={frame:=ext fr (kk l κ),callers:=low l κ cs,status:=.running,dying:=none}
def K0:List Item:=[.code (.refuse "")]
def Stops:GStep->Prop
 | .ended _ _ _=>True
 | _=>False
section
variable{Z Z':Zone}(hL:Le Z Z'){X:Tmp->Prop}
include hL
theorem V9.mono{x:Item}(h:V9 Z X x):V9 Z' X x:=by
 cases h with
 | code c h hu=>exact .code c (h.mono hL) hu
 | inBlock id=>exact .inBlock id
 | inLoop c h hu=>exact .inLoop c (h.mono hL) hu
 | inScope c h hu=>exact .inScope c (h.mono hL) hu
 | inRegion ops l h hu=>exact .inRegion ops l (fun o ho=>(h o ho).mono hL) hu
 | inRangeFunc l h=>exact .inRangeFunc l (hL.D _ h)
 | endRangeFunc l h=>exact .endRangeFunc l (hL.D _ h)
 | beginRound=>exact .beginRound
theorem MarksP.mono{ds:List Deferred}(h:MarksP Z ds):MarksP Z' ds:=fun d hd=>let ⟨r,e,hr⟩:=h d hd;⟨r,e,hL.D _ hr⟩
theorem FrP.mono{fr:Frame}(h:FrP Z X fr):FrP Z' X fr:=⟨fun t ht=>(h.tmps t ht).mono hL,fun x hx=>(h.todo x hx).mono hL,MarksP.mono hL h.defers,h.mode,h.kind,fun l hl=>hL.D _ (h.round l hl)⟩
theorem FrL.mono{fr:Frame}{l:List Frame}(h:FrL Z X fr l):FrL Z' X fr l:=⟨h.1.mono hL,h.2⟩
theorem b1E.mono:∀{l:List Frame},b1E Z X l->b1E Z' X l
 | [],_=>trivial
 | _::_,h=>⟨⟨h.1.1.mono hL,h.1.2⟩,b1E.mono h.2⟩
end
structure Inv(Z:Zone)(Sh:Nat->Prop)(X:Tmp->Prop)(fr:Frame)(l:List Frame)(w:World):Prop where
 fr:FrL (Zf Z Sh w.heap.size) X fr l
 low:b1E (Zf Z Sh w.heap.size) X l
 W:WPs Z Sh w
inductive St(Z:Zone)(Sh:Nat->Prop)(X:Tmp->Prop)(l:List Frame)(w:World)(s:List Item->List Frame->World->GStep):Prop
 | go (fr':Frame) (l':List Frame) (w':World) (es:Array Event) (k:Nat) (a:a5D w w' k) (h:∀κ cs τ p,Agree w k τ p->s κ cs (tp w τ p)=.go (Gr fr' l' κ cs) (tp w' τ (p+k)) es)
  (hI:Inv Z Sh X fr' l' w')(hs:w.heap.size<=w'.heap.size)(he:∀e∈es,EvOK (Zf Z Sh w'.heap.size) w'.heap.size e):St Z Sh X l w s
 | bad (fr':Frame) (chain:List PanicEntry) (w':World) (es:Array Event) (k:Nat) (a:a5D w w' k) (h:∀κ cs τ p,Agree w k τ p->s κ cs (tp w τ p)=.go (Gr fr' l κ cs) (tp w' τ (p+k)) es)
  (hm:fr'.mode=.panicking chain)(hd:MarksP (Zf Z Sh w'.heap.size) fr'.defers)(hW:WPs Z Sh w')(hs:w.heap.size<=w'.heap.size):St Z Sh X l w s
 | stop (k:Nat) (h:∀cs τ p,Agree w k τ p->Stops (s K0 cs (tp w τ p))):St Z Sh X l w s
theorem Y3(fr:Frame):ext fr []=fr:=by unfold ext;rw[List.append_nil]
theorem R8(fr:Frame)(k:List Item):(ext fr k).eval=fr.eval:=by
 funext x
 cases x<;>rfl
theorem H9{fr:Frame}(h:fr.todo≠[])(k:List Item)(v:Value):(ext fr k).finish v=ext (fr.finish v) k:=by
 obtain⟨fn,tmps,todo,defers,mode,kind,roundOf⟩:=fr;unfold ext Frame.finish
 cases todo with
 | nil=>exact absurd rfl h
 | cons x t=>
  cases x with
  | inRegion ops l=>
   cases l with
   | nil=>rfl
   | cons i rest=>rfl
  | _=>rfl
theorem FrP.finish{X:Tmp->Prop}{fr:Frame}(h:FrP Z X fr){v:Value}(hv:VP Z v):FrP Z X (fr.finish v)/\(fr.finish v).mode=fr.mode/\(fr.finish v).roundOf=fr.roundOf:=by
 obtain⟨fn,tmps,todo,defers,mode,kind,roundOf⟩:=fr;obtain⟨h2,h3,h4,h5,h6,h7⟩:=h;dsimp only at h2 h3 h4 h5 h6 h7;unfold Frame.finish
 cases todo with
 | nil=>exact⟨⟨h2,h3,h4,h5,h6,h7⟩,rfl,rfl⟩
 | cons x k=>
  have hk:∀y∈k,V9 Z X y:=fun y hy=>h3 y (by simp[hy]);have hx:=h3 x (by simp)
  cases hx with
  | inRegion ops l ho hu=>
   cases l with
   | nil=>exact⟨⟨h2,h3,h4,h5,h6,h7⟩,rfl,rfl⟩
   | cons i rest=>
    dsimp only;refine⟨⟨?_,?_,h4,h5,h6,h7⟩,rfl,rfl⟩
    ·dsimp only;split
     ·intro t ht;rw[Array.getD_eq_getD_getElem?,Array.getElem?_setIfInBounds];split
      ·split
       ·exact hv
       ·exact .tuple _ AP.nil
      ·exact Array.getD_eq_getD_getElem? (xs:=tmps)▸h2 t ht
     ·exact h2
    ·intro y hy;rcases List.mem_cons.1 hy with rfl|hy
     ·exact .inRegion _ _ ho hu
     ·exact hk y hy
  | inRangeFunc l hl=>
   dsimp only;refine⟨⟨h2,?_,h4,h5,h6,h7⟩,rfl,rfl⟩;intro y hy;rcases List.mem_cons.1 hy with rfl|hy
   ·exact .endRangeFunc _ hl
   ·exact hk y hy
  | beginRound=>exact⟨⟨h2,hk,h4,h5,h6,h7⟩,rfl,rfl⟩
  | _=>exact⟨⟨h2,h3,h4,h5,h6,h7⟩,rfl,rfl⟩
theorem FrL.finish{X:Tmp->Prop}{fr:Frame}{l:List Frame}(h:FrL Z X fr l){v:Value}(hv:VP Z v):FrL Z X (fr.finish v) l:=by
 obtain⟨h1,-,h3⟩:=h.1.finish hv;exact⟨h1,fun e=>h3.trans (h.2 e)⟩
theorem vp_undef:VP Z undef:=.tuple _ AP.nil
theorem b7Z(hP:PQK Z P){X:Tmp->Prop}{f:FuncId}(hf:Z.F f){args:Array Value}(h:AP Z args)(l:List Frame)(x:Frame):FrL Z X (Frame.enter P f args .normal) (x::l):=by
 refine⟨⟨fun t _=>(h.append (AP.replicate _ vp_undef)).getD _ vp_undef,fun x hx=>?_,by intro d hd;simp[Frame.enter] at hd,.inl rfl,rfl,by simp[Frame.enter]⟩,by simp⟩;simp only[Frame.enter,List.mem_singleton] at hx;subst hx;refine .code _ ?_ (codeU_full _)
 cases hfn:P.funcs[f]? with
 | none=>trivial
 | some fn=>
  cases hb:fn.body with
  | none=>simp only[Option.bind_some,hb];trivial
  | some c=>simp only[Option.bind_some,hb];exact hP.code f fn c hf hfn hb
theorem b70{X:Tmp->Prop}{r:Nat}(hl:Z.D r)(f:FuncId){tmps:Array Value}(ht:AP Z tmps){a b:Code}(ha:CodeP Z a)(hb:CodeP Z b)(l:List Frame)(x:Frame):FrL Z X (Frame.round r f tmps a b .normal) (x::l):=by
 refine⟨⟨fun t _=>ht.getD _ vp_undef,fun x hx=>?_,by intro d hd;simp[Frame.round] at hd,.inl rfl,rfl,by intro l' e;simp[Frame.round] at e;exact e▸hl⟩,by simp⟩;simp only[Frame.round,List.mem_cons,List.not_mem_nil,or_false] at hx;rcases hx with rfl|rfl|rfl
 ·exact .code _ ha (codeU_full _)
 ·exact .beginRound
 ·exact .code _ hb (codeU_full _)
theorem c2l{X:Tmp->Prop}{fr:Frame}(h:FrP Z X fr)(hne:fr.todo≠[]){κ:List Item}{d:Deferred}{b:Bool}{r:String}{s:Array Value}{k:List Item}(e:(ext fr κ).todo=.call d b r s::k):False:=by
 obtain⟨fn,tmps,todo,defers,mode,kind,roundOf⟩:=fr
 cases todo with
 | nil=>exact hne rfl
 | cons x t=>
  injection (show x::(t++κ)=_ from e) with e1;have:=h.todo x (by simp);rw[e1] at this;cases this
theorem a1W{B:Nat}{fn:FuncId}{es:Array Event}(h:∀e∈es,EvOK Z B e):∀e∈seen P fn es++#[],EvOK Z B e:=fun e he=>by
 rw[Array.append_empty] at he;exact h e (Go.Conc.mem_seen he)
theorem raise_mode(fr:Frame)(v:List PanicEntry):∃c,(fr.raise v).mode=.panicking c/\(fr.raise v).defers=fr.defers:=by
 unfold Frame.raise;split<;>exact⟨_,rfl,rfl⟩
theorem a0Q(fr:Frame)(κ:List Item)(v:List PanicEntry):(ext fr κ).raise v=ext (fr.raise v) κ:=by
 obtain⟨fn,tmps,todo,defers,mode,kind,roundOf⟩:=fr;cases mode<;>rfl
section
variable{Sh:Nat->Prop}{X:Tmp->Prop}
theorem Inv.same{fr fr':Frame}{l:List Frame}{w:World}(h:Inv Z Sh X fr l w)(h':FrL (Zf Z Sh w.heap.size) X fr' l):Inv Z Sh X fr' l w:=⟨h',h.low,h.W⟩
theorem a8O(hP:∀Z',Le Z Z'->PQK Z' P){fr:Frame}{l:List Frame}{w:World}(hI:Inv Z Sh X fr l w)(hm:fr.mode=.run)(hne:fr.todo≠[]){s:Sem Next}(hs:∀Z',Le (Zf Z Sh w.heap.size) Z'->Sf Z' P (a09 Z') s):
 St Z Sh X l w (fun κ cs w=>stepG.apply P true (ext fr (kk l κ)) (low l κ cs) none s w):=by
 have hk:∀κ,((ext fr κ).kind==CallKind.early)=false:=fun κ=>by show(fr.kind==CallKind.early)=false;rw[hI.fr.1.kind];rfl
 have hsn:∀κ es,seen P (ext fr κ).fn es=seen P fr.fn es:=fun _ _=>rfl;rcases both hs hI.W with⟨a,u,es,k,ha,hT,hn,hW',hsz,hev⟩|⟨h,u,es,k,ha,hT,hok,hsz,hW'⟩
 ·have hF:=hI.fr.mono (le_zf (Z:=Z) (Sh:=Sh) hsz);have hLo:=hI.low.mono (le_zf (Z:=Z) (Sh:=Sh) hsz);have hQ:=hP _ hW'.le
  cases hn with
  | value v hv=>
   refine .go (fr.finish v) l u (seen P fr.fn es++#[]) k ha (fun κ cs τ p hA=>?_) ⟨hF.finish hv,hLo,hW'⟩ hsz (a1W hev);unfold stepG.apply;simp only[if_true,hk,hsn,hT τ p hA,H9 hne]
   rfl
  | skip=>
   refine .go (fr.finish undef) l u (seen P fr.fn es++#[]) k ha (fun κ cs τ p hA=>?_) ⟨hF.finish vp_undef,hLo,hW'⟩ hsz (a1W hev);unfold stepG.apply;simp only[if_true,hk,hsn,hT τ p hA,H9 hne]
   rfl
  | enter f args hff haa=>
   refine .go (Frame.enter P f args .normal) (fr::l) u (seen P fr.fn es++#[]) k ha (fun κ cs τ p hA=>?_) ⟨b7Z hQ hff haa l fr,⟨⟨hF,hm,hne⟩,hLo⟩,hW'⟩ hsz (a1W hev);unfold stepG.apply;simp only[if_true,hk,hsn,hT τ p hA];dsimp only[GStep.after];split
   ·rename_i e;exact(c2l hI.fr.1 hne e).elim
   ·unfold Gr;show _=GStep.go {frame:=ext (Frame.enter P f args .normal) [],callers:=_,status:=_,dying:=_} _ _;rw[Y3]
    rfl
  | round l0 f tmps a b hD ht haa hbb=>
   refine .go (Frame.round l0 f tmps a b .normal) (fr::l) u (seen P fr.fn es++#[]) k ha (fun κ cs τ p hA=>?_) ⟨b70 hD f ht haa hbb l fr,⟨⟨hF,hm,hne⟩,hLo⟩,hW'⟩ hsz (a1W hev);unfold stepG.apply;simp only[if_true,hk,hsn,hT τ p hA];unfold Gr;show _=GStep.go {frame:=ext (Frame.round l0 f tmps a b .normal) [],callers:=_,status:=_,dying:=_} _ _;rw[Y3];rfl
 ·cases h with
  | panic v=>
   obtain⟨c,hc,hd⟩:=raise_mode fr [{v,recovered:=false}];refine .bad (fr.raise [{v,recovered:=false}]) c u (seen P fr.fn es++#[]) k ha (fun κ cs τ p hA=>?_) hc (by rw[hd];exact MarksP.mono (le_zf hsz) hI.fr.1.defers) hW' hsz;unfold stepG.apply;simp only[if_true,hk,hsn,hT τ p hA,a0Q]
   rfl
  | stuck x=>
   refine .stop k fun cs τ p hA=>?_;unfold stepG.apply;simp only[if_true,hk,hT τ p hA]
   trivial
  | unsupported u=>
   refine .stop k fun cs τ p hA=>?_;unfold stepG.apply;simp only[if_true,hk,hT τ p hA]
   cases u<;>first|exact(hok:False).elim|trivial
  | _=>exact(hok:False).elim
theorem a0R{id:Nat}:∀{k k':List Item},exitTo id k=some k'->∀x∈k',x∈k:=by
 intro k
 induction k with
 | nil=>intro k' h;cases h
 | cons y k ih=>
  intro k' h x hx
  cases y with
  | inBlock i=>
   unfold exitTo at h;split at h
   ·injection h with h;subst h;exact List.mem_cons_of_mem _ hx
   ·exact List.mem_cons_of_mem _ (ih h x hx)
  | _=>exact List.mem_cons_of_mem _ (ih (show exitTo id k=some k' from h) x hx)
theorem a0g{id:Nat}(κ:List Item):∀{k k':List Item},exitTo id k=some k'->exitTo id (k++κ)=some (k'++κ):=by
 intro k
 induction k with
 | nil=>intro k' h;cases h
 | cons y k ih=>
  intro k' h
  cases y with
  | inBlock i=>
   unfold exitTo at h;rw[List.cons_append];unfold exitTo;split at h
   ·rename_i e;rw[if_pos e];injection h with h;rw[h]
   ·rename_i e;rw[if_neg e];exact ih h
  | _=>exact ih (k':=k') h
theorem a1X{id:Nat}:∀{k:List Item},exitTo id k=none->exitTo id (k++K0)=none:=by
 intro k
 induction k with
 | nil=>intro _;rfl
 | cons y k ih=>
  intro h
  cases y with
  | inBlock i=>
   unfold exitTo at h;rw[List.cons_append];unfold exitTo;split at h
   ·cases h
   ·rename_i e;rw[if_neg e];exact ih h
  | _=>exact ih h
theorem b1F:∀{c:Code}{l:Nat}{r:Code},CodeP Z c->findLabel c l=some r->CodeP Z r:=by
 intro c
 induction c with
 | seq a b iha ihb=>
  intro l r h e;unfold findLabel at e;split at e
  ·rename_i rest e1;injection e with e;subst e;exact⟨iha h.1 e1,h.2⟩
  ·exact ihb h.2 e
 | label l'=>
  intro l r h e;unfold findLabel at e;split at e
  ·injection e with e;subst e;trivial
  ·cases e
 | _=>intro l r h e;cases e
theorem b3e{X:Tmp->Prop}:∀{c:Code}{l:Nat}{r:Code},CodeU X c->findLabel c l=some r->CodeU X r:=by
 intro c
 induction c with
 | seq a b iha ihb=>
  intro l r h e;unfold findLabel at e;split at e
  ·rename_i rest e1;injection e with e;subst e;exact⟨iha h.1 e1,h.2⟩
  ·exact ihb h.2 e
 | label l'=>
  intro l r h e;unfold findLabel at e;split at e
  ·injection e with e;subst e;trivial
  ·cases e
 | _=>intro l r h e;cases e
theorem b71{X:Tmp->Prop}{l:Nat}:∀{k k':List Item},(∀x∈k,V9 Z X x)->gotoIn l k=some k'->∀x∈k',V9 Z X x:=by
 intro k
 induction k with
 | nil=>intro k' _ h;cases h
 | cons y k ih=>
  intro k' hk h;have hk':∀x∈k,V9 Z X x:=fun x hx=>hk x (List.mem_cons_of_mem _ hx)
  cases y with
  | inScope body=>
   have hb:CodeP Z body/\CodeU X body:=by have:=hk (.inScope body) List.mem_cons_self;cases this;exact⟨by assumption,by assumption⟩
   unfold gotoIn at h;split at h
   ·rename_i rest e;injection h with h;subst h;intro x hx;rcases List.mem_cons.1 hx with rfl|hx
    ·exact .code _ (b1F hb.1 e) (b3e hb.2 e)
    rcases List.mem_cons.1 hx with rfl|hx
    ·exact .inScope _ hb.1 hb.2
    ·exact hk' x hx
   ·exact ih hk' h
  | _=>exact ih hk' (show gotoIn l k=some k' from h)
theorem a2X{l:Nat}(κ:List Item):∀{k k':List Item},gotoIn l k=some k'->gotoIn l (k++κ)=some (k'++κ):=by
 intro k
 induction k with
 | nil=>intro k' h;cases h
 | cons y k ih=>
  intro k' h
  cases y with
  | inScope body=>
   unfold gotoIn at h;rw[List.cons_append];unfold gotoIn;split at h
   ·rename_i rest e;injection h with h;subst h;rfl
   ·exact ih h
  | _=>exact ih (k':=k') h
theorem a1Y{l:Nat}:∀{k:List Item},gotoIn l k=none->gotoIn l (k++K0)=none:=by
 intro k
 induction k with
 | nil=>intro _;rfl
 | cons y k ih=>
  intro h
  cases y with
  | inScope body=>
   unfold gotoIn at h;rw[List.cons_append];unfold gotoIn;split at h
   ·cases h
   ·exact ih h
  | _=>exact ih h
theorem oprP_eval{Z:Zone}{X:Tmp->Prop}{fr:Frame}(h:FrP Z X fr)(x:Operand)(hx:b4L Z x)(hu:∀t,x=.tmp t->X t):VP Z (fr.eval x):=by
 cases x with
 | tmp t=>exact h.tmps t (hu t rfl)
 | const v=>exact hx
 | global g=>exact .ptr ⟨g,0,none⟩ hx
 | func f=>exact .func _ _ _ (.func f hx) AP.nil AP.nil
theorem a1Z{fr:Frame}{l:List Frame}{w:World}(hI:Inv Z Sh X fr l w){k:List Item}(hk:∀x∈k,V9 (Zf Z Sh w.heap.size) (xx l X) x){s:List Item->List Frame->World->GStep}
 (h:∀κ cs w,s κ cs w=.go (Gr {fr with todo:=k} l κ cs) w #[]):St Z Sh X l w s:=
 .go {fr with todo:=k} l w #[] 0 ⟨rfl,rfl⟩ (fun κ cs τ p _=>h κ cs _) (hI.same ⟨⟨hI.fr.1.tmps,hk,hI.fr.1.defers,hI.fr.1.mode,hI.fr.1.kind,hI.fr.1.round⟩,hI.fr.2⟩) (Nat.le_refl _) (by simp)
theorem ret_go(P:Program){fr c:Frame}{l:List Frame}(hk:fr.kind=.normal)(hc:c.todo≠[])(v:Value)(es:Array Event)(κ:List Item)(cs:List Frame)(w:World):
 GStep.after es (doReturn P true fr (low (c::l) κ cs) none v w)=.go (Gr (c.finish v) l κ cs) w (es++#[]):=by
 unfold doReturn;rw[hk];show GStep.after es (GStep.go {frame:=(ext c (kk l κ)).finish v,callers:=low l κ cs,status:=.running,dying:=none} w)=_;rw[H9 hc];rfl
theorem a5C{fr:Frame}{l:List Frame}{w:World}(hI:Inv Z Sh X fr l w)(j:Option Code)(hj:∀c,j=some c->b23 c):
 St Z Sh X l w (fun κ cs w=>match fr.roundOf with
  | none=>if (match j with|none=>true|some .ret=>true|_=>false)=true then .go {frame:={ext fr (kk l κ) with mode:=.returning},callers:=low l κ cs,status:=.running,dying:=none} w else .ended (.stuck "exit, goto: no such block or label" ((ext fr (kk l κ)).pos P)) w
  | some r=>let (r,es):=(Instr.endRound r j).runT P w #[]
   GStep.after (seen P fr.fn es) <| match r with
   | .ok v w=>doReturn P true (ext fr (kk l κ)) (low l κ cs) none v w
   | .halt _ w=>.ended (.stuck "range over a function: no such loop" ((ext fr (kk l κ)).pos P)) w):=by
 have hf:=hI.fr.1
 cases hr:fr.roundOf with
 | none=>
  have main:St Z Sh X l w (fun κ cs w=>.go {frame:={ext fr (kk l κ) with mode:=.returning},callers:=low l κ cs,status:=.running,dying:=none} w):=
   .go {fr with mode:=.returning} l w #[] 0 ⟨rfl,rfl⟩ (fun _ _ _ _ _=>rfl) (hI.same ⟨⟨hf.tmps,hf.todo,hf.defers,.inr rfl,hf.kind,hf.round⟩,hI.fr.2⟩) (Nat.le_refl _) (by simp)
  cases j with
  | none=>exact main
  | some c=>
   cases c with
   | ret=>exact main
   | _=>exact .stop 0 fun _ _ _ _=>trivial
 | some r=>
  rcases both (fun Z' hZ=>b3c (P:=P) (hZ.D _ (hf.round r hr)) j hj) hI.W with⟨v,u,es,k,ha,hT,hv,hW',hsz,hev⟩|⟨h,w',es,k,ha,hT,hok,hsz,hW'⟩
  ·cases l with
   | nil=>exact absurd (hI.fr.2 rfl) (by simp[hr])
   | cons c l=>
    obtain⟨⟨hc,hm,hne⟩,hl⟩:=hI.low.mono (le_zf (Z:=Z) (Sh:=Sh) hsz);refine .go (c.finish v) l u (seen P fr.fn es++#[]) k ha (fun κ cs τ p hA=>?_) ⟨hc.finish hv,hl,hW'⟩ hsz (a1W hev);dsimp only;rw[hT τ p hA];exact ret_go P (fr:=ext fr (kk (c::l) κ)) hf.kind hne v _ κ cs _
  ·refine .stop k fun cs τ p hA=>?_;dsimp only;rw[hT τ p hA];trivial
theorem c2m{n m:Nat}{e:Event}(h:EvOK (Zf Z Sh n) n e)(hn:n<=m):EvOK (Zf Z Sh m) m e:=by
 unfold EvOK at *;split at h
 ·exact⟨h.1,⟨Nat.lt_of_lt_of_le h.2.1.1 hn,h.2.1.2⟩,Nat.lt_of_lt_of_le h.2.2 hn⟩
 ·exact⟨h.1,⟨Nat.lt_of_lt_of_le h.2.1.1 hn,h.2.1.2⟩,Nat.lt_of_lt_of_le h.2.2 hn⟩
 ·exact h
 ·exact h
 ·exact h.elim
theorem St.congr{l:List Frame}{w:World}{s s':List Item->List Frame->World->GStep}(h:∀κ cs w,s κ cs w=s' κ cs w)(k:St Z Sh X l w s'):St Z Sh X l w s:=by
 have:s=s':=by funext κ cs w;exact h κ cs w
 rw[this];exact k
theorem c2n(hP:∀Z',Le Z Z'->PQK Z' P){fr:Frame}{l:List Frame}{w:World}(hI:Inv Z Sh X fr l w)(hm:fr.mode=.run)(hne:¬(l=[]/\fr.todo=[])):
 St Z Sh X l w (fun κ cs w=>stepG.exec P true true (ext fr (kk l κ)) (low l κ cs) none w):=by
 obtain⟨fn,tmps,todo,defers,mode,kind,roundOf⟩:=fr;dsimp only at hm hne;subst hm;have hf:=hI.fr.1
 cases todo with
 | nil=>
  cases l with
  | nil=>exact absurd ⟨rfl,rfl⟩ hne
  | cons c l=>exact a5C hI none (by simp)
 | cons x k=>
  have hk:∀y∈k,V9 (Zf Z Sh w.heap.size) (xx l X) y:=fun y hy=>hf.todo y (by simp[hy]);have hx:=hf.todo x (by simp);have c1:∀{n:Nat}{a:Item},w.heap.size<=n->V9 (Zf Z Sh n) (xx l X) a->∀y∈a::k,V9 (Zf Z Sh n) (xx l X) y:=fun hn ha y hy=>by
   rcases List.mem_cons.1 hy with rfl|hy
   ·exact ha
   ·exact(hk y hy).mono (le_zf hn)
  have c2:∀{a b:Item},V9 (Zf Z Sh w.heap.size) (xx l X) a->V9 (Zf Z Sh w.heap.size) (xx l X) b->∀y∈a::b::k,V9 (Zf Z Sh w.heap.size) (xx l X) y:=fun ha hb y hy=>by
   rcases List.mem_cons.1 hy with rfl|hy
   ·exact ha
   ·exact c1 (Nat.le_refl _) hb y hy
  cases hx with
  | inBlock id=>exact a1Z hI hk fun _ _ _=>rfl
  | inScope c h hu=>exact a1Z hI hk fun _ _ _=>rfl
  | inLoop c h hu=>exact a1Z hI (c2 (.code _ h hu) (.inLoop _ h hu)) fun _ _ _=>rfl
  | inRangeFunc l0 h=>exact .stop 0 fun _ _ _ _=>trivial
  | beginRound=>
   refine a8O hP hI rfl (by simp) (s:=do roundOf.elim (stuck "beginRound: no round") Instr.beginRound;pure .skip) fun Z' hZ=>?_
   cases roundOf with
   | none=>exact(trivial:HaltOK (.stuck _))
   | some r=>exact c2j (a9A (hP Z' (hI.W.le.trans hZ)).toPOK (hZ.D _ (hf.round r rfl)))
  | endRangeFunc l0 h=>
   rcases both (fun Z' hZ=>b40 (P:=P) (hP Z' (hI.W.le.trans hZ)).toPOK (hZ.D _ h)) hI.W with⟨j,u,es,kk',ha,hT,hj,hW',hsz,hev'⟩|⟨x,u,es,kk',ha,hT,hok,hsz,hW'⟩
   ·have hF:=hI.fr.mono (le_zf (Z:=Z) (Sh:=Sh) hsz);refine .go ⟨fn,tmps,(j.map Item.code).toList++k,defers,.run,kind,roundOf⟩ l u (seen P fn es++#[]) kk' ha (fun κ cs τ p hA=>?_) ⟨⟨⟨hF.1.tmps,fun y hy=>?_,hF.1.defers,hF.1.mode,hF.1.kind,hF.1.round⟩,hF.2⟩,hI.low.mono (le_zf hsz),hW'⟩ hsz (a1W hev')
    ·unfold stepG.exec ext;dsimp only[List.cons_append];rw[hT τ p hA];unfold Gr ext;rw[List.append_assoc];rfl
    ·cases j with
     | none=>exact(hk y (by simpa using hy)).mono (le_zf hsz)
     | some c=>
      rcases List.mem_cons.1 (show y∈Item.code c::k from hy) with rfl|hy
      ·
       exact b44 (hj c rfl)
      ·exact(hk y hy).mono (le_zf hsz)
   ·cases x with
    | panic v=>
     obtain⟨c,hc,hd⟩:=raise_mode ⟨fn,tmps,.endRangeFunc l0::k,defers,.run,kind,roundOf⟩ [{v,recovered:=false}];refine .bad (Frame.raise ⟨fn,tmps,.endRangeFunc l0::k,defers,.run,kind,roundOf⟩ [{v,recovered:=false}]) c u (seen P fn es++#[]) kk' ha (fun κ cs τ p hA=>?_) hc (by rw[hd];exact MarksP.mono (le_zf hsz) hf.defers) hW' hsz;unfold stepG.exec ext;dsimp only[List.cons_append];rw[hT τ p hA]
     rfl
    | _=>
     refine .stop kk' fun cs τ p hA=>?_;unfold stepG.exec ext;dsimp only[List.cons_append];rw[hT τ p hA]
     trivial
  | inRegion ops is h hu=>
   cases is with
   | nil=>exact a1Z hI hk fun _ _ _=>rfl
   | cons i rest=>
    by_cases hw:((ops[i]?).map (Region.wanted · (yielded ops tmps))).getD false=true
    ·cases ho:ops[i]? with
     | none=>rw[ho] at hw;cases hw
     | some o=>
      have hop:OpP (Zf Z Sh w.heap.size) o.op:=h o (Array.mem_of_getElem? ho);have hou:OpU (xx l X) o.op:=hu o (Array.mem_of_getElem? ho);have main:=a8O hP hI rfl (by simp) (s:=execOp (Frame.eval ⟨fn,tmps,.inRegion ops (i::rest)::k,defers,.run,kind,roundOf⟩) o) fun Z' hZ=>
       sf_execOp (hP Z' (hI.W.le.trans hZ)) (hop.mono hZ).1 fun x hx=>oprP_eval (hf.mono hZ) x ((hop.mono hZ).2 x hx) fun t e=>hou x hx t e
      refine St.congr (fun κ cs w=>?_) main;have e1:(Frame.oper? (ext ⟨fn,tmps,.inRegion ops (i::rest)::k,defers,.run,kind,roundOf⟩ (kk l κ)))=some o:=ho;have e3:=R8 ⟨fn,tmps,.inRegion ops (i::rest)::k,defers,.run,kind,roundOf⟩ (kk l κ);rw[<-e3];show stepG.exec P true true ⟨fn,tmps,.inRegion ops (i::rest)::(k++kk l κ),defers,.run,kind,roundOf⟩ (low l κ cs) none w=_;unfold stepG.exec;dsimp only;rw[if_pos hw];unfold stepG.oper;simp only[show(Frame.oper? ⟨fn,tmps,.inRegion ops (i::rest)::(k++kk l κ),defers,.run,kind,roundOf⟩)=some o from ho];split
      ·rename_i hd;rw[hd] at hop;exact hop.1.elim
      ·rfl
    ·have hF:=hI.fr.finish (vp_undef);refine .go (Frame.finish ⟨fn,tmps,.inRegion ops (i::rest)::k,defers,.run,kind,roundOf⟩ undef) l w #[] 0 ⟨rfl,rfl⟩ (fun κ cs τ p _=>?_) (hI.same hF) (Nat.le_refl _) (by simp);unfold Gr;rw[<-H9 (by simp)];show stepG.exec P true true ⟨fn,tmps,.inRegion ops (i::rest)::(k++kk l κ),defers,.run,kind,roundOf⟩ (low l κ cs) none _=_;unfold stepG.exec;dsimp only;rw[if_neg hw]
     rfl
  | code c hc hu=>
   cases c with
   | skip=>exact a1Z hI hk fun _ _ _=>rfl
   | label _=>exact a1Z hI hk fun _ _ _=>rfl
   | seq a b=>exact a1Z hI (c2 (.code _ hc.1 hu.1) (.code _ hc.2 hu.2)) fun _ _ _=>rfl
   | cond c a b=>
    by_cases ht:∃t,Frame.eval ⟨fn,tmps,.code (.cond c a b)::k,defers,.run,kind,roundOf⟩ c=.bool t
    ·obtain⟨t,ht⟩:=ht;refine a1Z hI (k:=.code (if t then a else b)::k) (c1 (Nat.le_refl _) (.code _ ?_ ?_)) fun κ cs w=>?_
     ·split
      ·exact hc.1
      ·exact hc.2
     ·split
      ·exact hu.1
      ·exact hu.2
     ·rw[<-R8 _ (kk l κ)] at ht;unfold stepG.exec ext;dsimp only[List.cons_append];dsimp only[ext,List.cons_append] at ht;rw[ht];rfl
    ·refine .stop 0 fun cs τ p _=>?_;rw[<-R8 _ (kk l K0)] at ht;unfold stepG.exec ext;dsimp only[ext,List.cons_append] at ht⊢;split
     ·rename_i t e;exact absurd ⟨t,e⟩ ht
     ·trivial
   | block id b=>exact a1Z hI (c2 (.code b hc hu) (.inBlock id)) fun _ _ _=>rfl
   | loop b=>exact a1Z hI (c2 (.code b hc hu) (.inLoop b hc hu)) fun _ _ _=>rfl
   | scope b=>exact a1Z hI (c2 (.code b hc hu) (.inScope b hc hu)) fun _ _ _=>rfl
   | ret=>exact a5C hI (some .ret) (by rintro _ ⟨⟩;trivial)
   | refuse why=>exact .stop 0 fun _ _ _ _=>trivial
   | exit id=>
    cases e:exitTo id k with
    | none=>
     cases l with
     | nil=>
      refine .stop 0 fun cs τ p _=>?_;have hr:roundOf=none:=hI.fr.2 rfl;subst hr;show Stops (stepG.exec P true true ⟨fn,tmps,.code (.exit id)::(k++K0),defers,.run,kind,none⟩ _ none _);unfold stepG.exec;dsimp only;rw[a1X e]
      trivial
     | cons c l=>
      refine St.congr (fun κ cs w=>?_) (a5C (P:=P) hI (some (.exit id)) (by rintro _ ⟨⟩;trivial));show stepG.exec P true true ⟨fn,tmps,.code (.exit id)::(k++[]),defers,.run,kind,roundOf⟩ _ none _=_;unfold stepG.exec;dsimp only;rw[List.append_nil,e];show _=(match roundOf with|none=>_|some r=>_)
      cases roundOf with
      | none=>rfl
      | some r=>dsimp only[kk];rw[Y3];rfl
    | some k'=>
     refine a1Z hI (fun y hy=>hk y (a0R e y hy)) fun κ cs w=>?_;show stepG.exec P true true ⟨fn,tmps,.code (.exit id)::(k++kk l κ),defers,.run,kind,roundOf⟩ _ none _=_;unfold stepG.exec;dsimp only;rw[a0g _ e]
     rfl
   | goto l0=>
    cases e:gotoIn l0 k with
    | none=>
     cases l with
     | nil=>
      refine .stop 0 fun cs τ p _=>?_;have hr:roundOf=none:=hI.fr.2 rfl;subst hr;show Stops (stepG.exec P true true ⟨fn,tmps,.code (.goto l0)::(k++K0),defers,.run,kind,none⟩ _ none _);unfold stepG.exec;dsimp only;rw[a1Y e]
      trivial
     | cons c l=>
      refine St.congr (fun κ cs w=>?_) (a5C (P:=P) hI (some (.goto l0)) (by rintro _ ⟨⟩;trivial));show stepG.exec P true true ⟨fn,tmps,.code (.goto l0)::(k++[]),defers,.run,kind,roundOf⟩ _ none _=_;unfold stepG.exec;dsimp only;rw[List.append_nil,e];show _=(match roundOf with|none=>_|some r=>_)
      cases roundOf with
      | none=>rfl
      | some r=>dsimp only[kk];rw[Y3];rfl
    | some k'=>
     refine a1Z hI (b71 hk e) fun κ cs w=>?_;show stepG.exec P true true ⟨fn,tmps,.code (.goto l0)::(k++kk l κ),defers,.run,kind,roundOf⟩ _ none _=_;unfold stepG.exec;dsimp only;rw[a2X _ e]
     rfl
   | region id ops draw=>
    cases draw with
    | false=>exact a1Z hI (c1 (Nat.le_refl _) (.inRegion ops _ hc hu)) fun _ _ _=>rfl
    | true=>
     refine .go ⟨fn,tmps,.inRegion ops (Region.schedule (P.follows .mixedOrders) ops ((Question.order fn id).cut (w.tape w.drawn (.order fn id))))::k,defers,.run,kind,roundOf⟩ l {w with drawn:=w.drawn+1} #[] 1 ⟨rfl,rfl⟩ (fun κ cs τ p hA=>?_) ⟨⟨⟨hf.tmps,c1 (Nat.le_refl _) (.inRegion ops _ hc hu),hf.defers,hf.mode,hf.kind,hf.round⟩,hI.fr.2⟩,hI.low,⟨hI.W.obj,hI.W.sh,hI.W.base⟩⟩ (Nat.le_refl _) (by simp);have h0:τ p (.order fn id)=w.tape w.drawn (.order fn id):=by simpa using hA 0 (by omega) (.order fn id)
     show GStep.go _ _ _=_;rw[<-h0]
     rfl
   | rangeFunc f params assign body=>
    have hAP:AP (Zf Z Sh w.heap.size) tmps:=b5T fun t _=>hf.tmps t (hu.1 t);rcases both (fun Z' hZ=>b1D (P:=P) (fn:=fn) (hAP.mono hZ) params (hc.2.1.mono hZ) (hc.2.2.mono hZ) (fun l e=>hZ.D _ (hf.round l e))) hI.W with⟨r,u,es,k1,ha,hT,⟨hr,hds⟩,hW',hsz,hev'⟩|⟨x,w',es,k1,ha,hT,hok,hsz,hW'⟩
    ·obtain⟨l0,mark⟩:=r;have hF:=hI.fr.mono (le_zf (Z:=Z) (Sh:=Sh) hsz);have hI':Inv Z Sh X ⟨fn,tmps,.inRangeFunc l0::k,mark++defers,.run,kind,roundOf⟩ l u:=
      ⟨⟨⟨hF.1.tmps,c1 hsz (.inRangeFunc _ hr),fun d hd=>(List.mem_append.1 hd).elim (hds d) (hF.1.defers d),hF.1.mode,hF.1.kind,hF.1.round⟩,hF.2⟩,hI.low.mono (le_zf hsz),hW'⟩
     have main:=a8O hP hI' rfl (by simp) (s:=do let d <-resolve (Frame.eval ⟨fn,tmps,.inRangeFunc l0::k,mark++defers,.run,kind,roundOf⟩) {callee:=.value f,args:=#[.const (.func (.yield l0) #[] #[])],argTypes:=#[]} 0;invoke d.target d.args) (fun Z' hZ=>by
      refine Sf.bind (a8M (c:={callee:=.value f,args:=#[.const (.func (.yield l0) #[] #[])],argTypes:=#[]}) (fun x hx=>oprP_eval (hI'.fr.1.mono hZ) x ?_ fun t _=>hu.1 t) (show a3S Z' (.value f) from trivial) _) fun d hd=>b0u (hP Z' (hI'.W.le.trans hZ)) hd;simp[Call.operands] at hx;rcases hx with rfl|rfl
      ·exact hc.1.mono ((le_zf hsz).trans hZ)
      ·exact .func _ _ _ (.yield _ (hZ.D _ hr)) AP.nil AP.nil)
     have e2:∀κ cs τ p,Agree w k1 τ p->stepG.exec P true true (ext ⟨fn,tmps,.code (.rangeFunc f params assign body)::k,defers,.run,kind,roundOf⟩ (kk l κ)) (low l κ cs) none (tp w τ p)=GStep.after (seen P fn es) (stepG.apply P true (ext ⟨fn,tmps,.inRangeFunc l0::k,mark++defers,.run,kind,roundOf⟩ (kk l κ)) (low l κ cs) none (do let d <-resolve (Frame.eval ⟨fn,tmps,.inRangeFunc l0::k,mark++defers,.run,kind,roundOf⟩) {callee:=.value f,args:=#[.const (.func (.yield l0) #[] #[])],argTypes:=#[]} 0;invoke d.target d.args) (tp u τ (p+k1))):=fun κ cs τ p hA=>by
      show stepG.exec P true true ⟨fn,tmps,.code (.rangeFunc f params assign body)::(k++kk l κ),defers,.run,kind,roundOf⟩ _ none _=_;rw[<-R8 ⟨fn,tmps,.inRangeFunc l0::k,mark++defers,.run,kind,roundOf⟩ (kk l κ)];unfold stepG.exec;dsimp only;rw[hT τ p hA];rfl
     cases main with
     | go fr' l' w' es' k2 a2 h h1 h5 h6=>
      refine .go fr' l' w' (seen P fn es++es') (k1+k2) (ha.trans a2) (fun κ cs τ p hA=>?_) h1 (Nat.le_trans hsz h5) ?_
      ·rw[e2 κ cs τ p hA.left,h κ cs τ (p+k1) (hA.right ha),Nat.add_assoc];rfl
      ·intro e he;rcases Array.mem_append.1 he with he|he
       ·exact c2m (hev' e (Go.Conc.mem_seen he)) h5
       ·exact h6 e he
     | bad fr' c w' es' k2 a2 h hm hd hW2 hs2=>
      refine .bad fr' c w' (seen P fn es++es') (k1+k2) (ha.trans a2) (fun κ cs τ p hA=>?_) hm hd hW2 (Nat.le_trans hsz hs2)
      rw[e2 κ cs τ p hA.left,h κ cs τ (p+k1) (hA.right ha),Nat.add_assoc];rfl
     | stop k2 h=>
      refine .stop (k1+k2) fun cs τ p hA=>?_;have:=h cs τ (p+k1) (hA.right ha);rw[e2 K0 cs τ p hA.left];revert this;generalize stepG.apply P true _ _ _ _ _=x;intro this;cases x<;>first|trivial|exact this.elim
    ·refine .stop k1 fun cs τ p hA=>?_;show Stops (stepG.exec P true true ⟨fn,tmps,.code (.rangeFunc f params assign body)::(k++kk l K0),defers,.run,kind,roundOf⟩ _ none _);unfold stepG.exec;dsimp only;rw[hT τ p hA];trivial
theorem b45{fn:Func}{tmps:Array Value}(hP:POK Z P)(h:AP Z tmps):Sf Z P (VP Z) (results fn tmps):=by
 unfold results;refine Sf.bind (b5S (I:=VP Z) _ _ fun r _=>?_) fun vs hvs=>Sf.pure ?_
 ·split
  ·exact Sf.pure (h.getD _ vp_undef)
  ·exact Sf.bind (a1s hP (h.getD _ vp_undef)) fun a ha=>X7 _ ha
 ·split
  ·exact hvs _ (Array.getElem_mem _)
  ·exact .tuple _ hvs
theorem a1K(x:Frame)(l:List Frame)(κ:List Item)(cs:List Frame):low (x::l) κ cs=ext x (kk l κ)::low l κ cs:=rfl
theorem b72(hP:∀Z',Le Z Z'->PQK Z' P){fr:Frame}{l:List Frame}{w:World}(hI:Inv Z Sh X fr l w)(hm:fr.mode=.returning)(hne:¬(l=[]/\fr.defers=[])):
 St Z Sh X l w (fun κ cs w=>unwind P true (ext fr (kk l κ)) (low l κ cs) none w):=by
 have hf:=hI.fr.1;have em:∀k,(ext fr k).mode=.returning:=fun _=>hm;have ed:∀k,(ext fr k).defers=fr.defers:=fun _=>rfl;have en:∀k,(ext fr k).fn=fr.fn:=fun _=>rfl;have et:∀k,(ext fr k).tmps=fr.tmps:=fun _=>rfl
 cases hd:fr.defers with
 | cons d ds=>
  obtain⟨r,rfl,hr⟩:=hf.defers d (by rw[hd];simp);rcases both (fun Z' hZ=>a3f (P:=P) (hZ.D _ hr)) hI.W with⟨c,u,es,k1,ha,hT,rfl,hW',hsz,hev⟩|⟨x,w',es,k1,ha,hT,hok,hsz,hW'⟩
  ·have hF:=hI.fr.mono (le_zf (Z:=Z) (Sh:=Sh) hsz);refine .go {fr with defers:=ds} l u (seen P fr.fn es++#[]) k1 ha (fun κ cs τ p hA=>?_) ⟨⟨⟨hF.1.tmps,hF.1.todo,fun d h=>hF.1.defers d (by rw[hd];simp[h]),.inr hm,hF.1.kind,hF.1.round⟩,hF.2⟩,hI.low.mono (le_zf hsz),hW'⟩ hsz (a1W hev);unfold unwind;rw[ed,hd];dsimp only;rw[hT τ p hA];rfl
  ·refine .stop k1 fun cs τ p hA=>?_;unfold unwind;rw[ed,hd];dsimp only;rw[hT τ p hA]
   trivial
 | nil=>
  cases l with
  | nil=>exact absurd ⟨rfl,hd⟩ hne
  | cons c l=>
   cases hfn:P.funcs[fr.fn]? with
   | none=>
    obtain⟨⟨hc,-,hcn⟩,hl⟩:=hI.low;refine .go (c.finish (fr.tmps.getD 0 undef)) l w #[] 0 ⟨rfl,rfl⟩ (fun κ cs τ p _=>?_) ⟨hc.finish (hf.tmps 0 trivial),hl,hI.W⟩ (Nat.le_refl _) (by simp);unfold unwind;rw[ed,hd,em];dsimp only;rw[en,hfn];dsimp only;unfold doReturn;rw[show(ext fr (kk (c::l) κ)).kind=.normal from hf.kind];rw[a1K];dsimp only;rw[H9 hcn]
    rfl
   | some fn=>
    rcases both (fun Z' hZ=>b45 (fn:=fn) (hP Z' (hI.W.le.trans hZ)).toPOK (AP.mono hZ (b5T hf.tmps))) hI.W with⟨v,u,es,k1,ha,hT,hv,hW',hsz,hev⟩|⟨x,w',es,k1,ha,hT,hok,hsz,hW'⟩
    ·obtain⟨⟨hc,-,hcn⟩,hl⟩:=hI.low.mono (le_zf (Z:=Z) (Sh:=Sh) hsz);refine .go (c.finish v) l u (seen P fr.fn es++#[]) k1 ha (fun κ cs τ p hA=>?_) ⟨hc.finish hv,hl,hW'⟩ hsz (a1W hev);unfold unwind;rw[ed,hd,em];dsimp only;rw[en,hfn];dsimp only;rw[et,hT τ p hA];exact ret_go P (fr:=ext fr (kk (c::l) κ)) hf.kind hcn v _ κ cs _
    ·refine .stop k1 fun cs τ p hA=>?_;unfold unwind;rw[ed,hd,em];dsimp only;rw[en,hfn];dsimp only;rw[et,hT τ p hA];cases x<;>trivial
def Stop(fr:Frame)(l:List Frame):Prop:=l=[]/\((fr.mode=.run/\fr.todo=[])\/(fr.mode=.returning/\fr.defers=[]))
theorem c2o(hP:∀Z',Le Z Z'->PQK Z' P){fr:Frame}{l:List Frame}{w:World}(hI:Inv Z Sh X fr l w)(hne:¬Stop fr l):
 St Z Sh X l w (fun κ cs w=>stepG P true (Gr fr l κ cs) w):=by
 rcases hI.fr.1.mode with hm|hm
 ·refine St.congr (fun κ cs w=>?_) (c2n hP hI hm fun h=>hne ⟨h.1,.inl ⟨hm,h.2⟩⟩);unfold stepG Gr;dsimp only;rw[show(ext fr (kk l κ)).mode=.run from hm]
 ·refine St.congr (fun κ cs w=>?_) (b72 hP hI hm fun h=>hne ⟨h.1,.inr ⟨hm,h.2⟩⟩);unfold stepG Gr;dsimp only;rw[show(ext fr (kk l κ)).mode=.returning from hm]
end
end
end Go.Zn
