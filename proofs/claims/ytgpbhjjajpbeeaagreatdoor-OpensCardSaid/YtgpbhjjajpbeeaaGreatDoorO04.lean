/- A part of what the last file proves. -/
import Derived.Test.YtgpbhjjajpbeeaaGreatDoorO03
import Derived.Conc.Listed
set_option linter.all false
namespace Go.Zn
section
variable{Z:Zone}{P:Program}
def Rn(X:Tmp->Prop)(o:Op):Prop:=∀x∈o.operands,∀t,x=.tmp t->X t
def gX(X:Tmp->Prop):Code->Prop
 | .seq a b=>gX X a/\gX X b
 | .cond _ a b=>gX X a/\gX X b
 | .block _ b=>gX X b
 | .loop b=>gX X b
 | .scope b=>gX X b
 | .region _ ops _=>∀o∈ops,Rn X o.op
 | .rangeFunc _ _ assign body=>(∀t,X t)/\gX X assign/\gX X body
 | _=>True
def Full:Tmp->Prop:=λ_=>True
theorem c2K(o:Op):Rn Full o:=λ_ _ _ _=>trivial
theorem fD(c:Code):gX Full c:=by
 induction c with
 | seq a b iha ihb=>exact⟨iha,ihb⟩
 | cond _ a b iha ihb=>exact⟨iha,ihb⟩
 | block _ b ih=>exact ih
 | loop b ih=>exact ih
 | scope b ih=>exact ih
 | region _ ops _=>exactλo _=>c2K _
 | rangeFunc f _ a b iha ihb=>exact⟨λ_=>trivial,iha,ihb⟩
 | _=>trivial
inductive nM(Z:Zone)(X:Tmp->Prop):Item->Prop
 | code (c:Code) (h:eX Z c) (hu:gX X c):nM Z X (.code c)
 | inBlock (id:Nat):nM Z X (.inBlock id)
 | inLoop (c:Code) (h:eX Z c) (hu:gX X c):nM Z X (.inLoop c)
 | inScope (c:Code) (h:eX Z c) (hu:gX X c):nM Z X (.inScope c)
 | inRegion (ops:Array Oper) (l:List Nat) (h:∀o∈ops,ES Z o.op) (hu:∀o∈ops,Rn X o.op):nM Z X (.inRegion ops l)
 | inRangeFunc (l:Nat) (h:Z.D l):nM Z X (.inRangeFunc l)
 | endRangeFunc (l:Nat) (h:Z.D l):nM Z X (.endRangeFunc l)
 | beginRound:nM Z X .beginRound
structure Dy(Z:Zone)(X:Tmp->Prop)(fr:Frame):Prop where
 tmps:∀t,X t->VP Z (fr.tmps.getD t undef)
 todo:∀x∈fr.todo,nM Z X x
 defers:iK Z fr.defers
 mode:fr.mode=.run\/fr.mode=.returning
 kind:fr.kind=.normal
 round:∀l,fr.roundOf=some l->Z.D l
theorem b6q{X:Tmp->Prop}{c:Code}(h:PU c):nM Z X (.code c):=by
 cases c<;>first|exact(h:False).elim|exact .code _ trivial trivial
theorem vB{c:Array Value}(h:∀t,Full t->VP Z (c.getD t undef)):AP Z c:=λx hx=>by
 obtain⟨i,hi,rfl⟩:=eY.1 hx;have:=h i trivial;simpa [aA,hi] using this
def xx(l:List Frame)(X:Tmp->Prop):Tmp->Prop:=match l with
 | []=>X
 | _::_=>Full
def zU(Z:Zone)(X:Tmp->Prop)(fr:Frame)(l:List Frame):Prop:=Dy Z (xx l X) fr/\(l=[]->fr.roundOf=none)
def Ce(Z:Zone)(X:Tmp->Prop):List Frame->Prop
 | []=>True
 | x::l=>(zU Z X x l/\x.mode=.run/\x.todo≠[])/\Ce Z X l
def kk(l:List Frame)(κ:List Item):List Item:=match l with
 | []=>κ
 | _::_=>[]
def ext(fr:Frame)(k:List Item):Frame:={fr with todo:=fr.todo++k}
def low:List Frame->List Item->List Frame->List Frame
 | [],_,cs=>cs
 | x::l,κ,cs=>ext x (kk l κ)::low l κ cs
def Gr(fr:Frame)(l:List Frame)(κ:List Item)(cs:List Frame):Goroutine:={frame:=ext fr (kk l κ),callers:=low l κ cs,status:=.running,dying:=none}
def K0:List Item:=[.code (.refuse "")]
def Stops:GStep->Prop
 | .ended _ _ _=>True
 | _=>False
section
variable{Z Z':Zone}(hL:Le Z Z'){X:Tmp->Prop}
include hL
theorem nM.mono{x:Item}(h:nM Z X x):nM Z' X x:=by
 cases h with
 | code c h hu=>exact .code c (h.mono hL) hu
 | inBlock id=>exact .inBlock id
 | inLoop c h hu=>exact .inLoop c (h.mono hL) hu
 | inScope c h hu=>exact .inScope c (h.mono hL) hu
 | inRegion ops l h hu=>exact .inRegion ops l (λo ho=>(h o ho).mono hL) hu
 | inRangeFunc l h=>exact .inRangeFunc l (hL.D _ h)
 | endRangeFunc l h=>exact .endRangeFunc l (hL.D _ h)
 | beginRound=>exact .beginRound
theorem iK.mono{ds:List Deferred}(h:iK Z ds):iK Z' ds:=λd hd=>let ⟨r,e,hr⟩:=h d hd;⟨r,e,hL.D _ hr⟩
theorem Dy.mono{fr:Frame}(h:Dy Z X fr):Dy Z' X fr:=⟨λt ht=>(h.tmps t ht).mono hL,λx hx=>(h.todo x hx).mono hL,iK.mono hL h.defers,h.mode,h.kind,λl hl=>hL.D _ (h.round l hl)⟩
theorem zU.mono{fr:Frame}{l:List Frame}(h:zU Z X fr l):zU Z' X fr l:=⟨h.1.mono hL,h.2⟩
theorem Ce.mono:∀{l:List Frame},Ce Z X l->Ce Z' X l
 | [],_=>trivial
 | _::_,h=>⟨⟨h.1.1.mono hL,h.1.2⟩,Ce.mono h.2⟩
end
structure Inv(Z:Zone)(Sh:Nat->Prop)(X:Tmp->Prop)(fr:Frame)(l:List Frame)(w:World):Prop where
 fr:zU (Zf Z Sh w.heap.size) X fr l
 low:Ce (Zf Z Sh w.heap.size) X l
 W:jh Z Sh w
inductive St(Z:Zone)(Sh:Nat->Prop)(X:Tmp->Prop)(l:List Frame)(w:World)(s:List Item->List Frame->World->GStep):Prop
 | go (fr':Frame) (l':List Frame) (w':World) (es:Array Event) (k:Nat) (a:Asks w w' k) (h:∀κ cs τ p,Agree w k τ p->s κ cs (tp w τ p)=.go (Gr fr' l' κ cs) (tp w' τ (p+k)) es)
  (hI:Inv Z Sh X fr' l' w')(hs:w.heap.size<=w'.heap.size)(he:∀e∈es,jd (Zf Z Sh w'.heap.size) w'.heap.size e):St Z Sh X l w s
 | bad (fr':Frame) (chain:List PanicEntry) (w':World) (es:Array Event) (k:Nat) (a:Asks w w' k) (h:∀κ cs τ p,Agree w k τ p->s κ cs (tp w τ p)=.go (Gr fr' l κ cs) (tp w' τ (p+k)) es)
  (hm:fr'.mode=.panicking chain)(hd:iK (Zf Z Sh w'.heap.size) fr'.defers)(hW:jh Z Sh w')(hs:w.heap.size<=w'.heap.size):St Z Sh X l w s
 | stop (k:Nat) (h:∀cs τ p,Agree w k τ p->Stops (s K0 cs (tp w τ p))):St Z Sh X l w s
theorem wM(fr:Frame):ext fr []=fr:=by unfold ext;rw[dO]
theorem wJ(fr:Frame)(k:List Item):(ext fr k).eval=fr.eval:=by
 funext x
 cases x<;>rfl
theorem O3{fr:Frame}(h:fr.todo≠[])(k:List Item)(v:Value):(ext fr k).finish v=ext (fr.finish v) k:=by
 obtain⟨fn,tmps,todo,defers,mode,kind,roundOf⟩:=fr;unfold ext Frame.finish
 cases todo with
 | nil=>exact absurd rfl h
 | cons x t=>
  cases x with
  | inRegion ops l=>
   cases l with
   | nil=>rfl
   | cons i rest=>rfl
  | _=>rfl
theorem Dy.finish{X:Tmp->Prop}{fr:Frame}(h:Dy Z X fr){v:Value}(hv:VP Z v):Dy Z X (fr.finish v)/\(fr.finish v).mode=fr.mode/\(fr.finish v).roundOf=fr.roundOf:=by
 obtain⟨fn,tmps,todo,defers,mode,kind,roundOf⟩:=fr;obtain⟨h2,h3,h4,h5,h6,h7⟩:=h;dsimp only at h2 h3 h4 h5 h6 h7;unfold Frame.finish
 cases todo with
 | nil=>exact⟨⟨h2,h3,h4,h5,h6,h7⟩,rfl,rfl⟩
 | cons x k=>
  have hk:∀y∈k,nM Z X y:=λy hy=>h3 y (by simp[hy]);have hx:=h3 x (by simp)
  cases hx with
  | inRegion ops l ho hu=>
   cases l with
   | nil=>exact⟨⟨h2,h3,h4,h5,h6,h7⟩,rfl,rfl⟩
   | cons i rest=>
    dsimp only;refine⟨⟨?_,?_,h4,h5,h6,h7⟩,rfl,rfl⟩
    ·dsimp only;split
     ·intro t ht;rw[aA,dI];split
      ·split
       ·exact hv
       ·exact .tuple _ AP.nil
      ·exact aA (xs:=tmps)▸h2 t ht
     ·exact h2
    ·intro y hy;rcases aY.1 hy with rfl|hy
     ·exact .inRegion _ _ ho hu
     ·exact hk y hy
  | inRangeFunc l hl=>
   dsimp only;refine⟨⟨h2,?_,h4,h5,h6,h7⟩,rfl,rfl⟩;intro y hy;rcases aY.1 hy with rfl|hy
   ·exact .endRangeFunc _ hl
   ·exact hk y hy
  | beginRound=>exact⟨⟨h2,hk,h4,h5,h6,h7⟩,rfl,rfl⟩
  | _=>exact⟨⟨h2,h3,h4,h5,h6,h7⟩,rfl,rfl⟩
theorem zU.finish{X:Tmp->Prop}{fr:Frame}{l:List Frame}(h:zU Z X fr l){v:Value}(hv:VP Z v):zU Z X (fr.finish v) l:=by
 obtain⟨h1,-,h3⟩:=h.1.finish hv;exact⟨h1,λe=>h3.trans (h.2 e)⟩
theorem iy:VP Z undef:=.tuple _ AP.nil
theorem b9j(hP:qo Z P){X:Tmp->Prop}{f:FuncId}(hf:Z.F f){args:Array Value}(h:AP Z args)(l:List Frame)(x:Frame):zU Z X (Frame.enter P f args .normal) (x::l):=by
 refine⟨⟨λt _=>(h.append (AP.replicate _ iy)).getD _ iy,λx hx=>?_,by intro d hd;simp[Frame.enter] at hd,.inl rfl,rfl,by simp[Frame.enter]⟩,by simp⟩;simp only[Frame.enter,fP] at hx;subst hx;refine .code _ ?_ (fD _)
 cases hfn:P.funcs[f]? with
 | none=>trivial
 | some fn=>
  cases hb:fn.body with
  | none=>simp only[eF,hb];trivial
  | some c=>simp only[eF,hb];exact hP.code f fn c hf hfn hb
theorem b9k{X:Tmp->Prop}{r:Nat}(hl:Z.D r)(f:FuncId){tmps:Array Value}(ht:AP Z tmps){a b:Code}(ha:eX Z a)(hb:eX Z b)(l:List Frame)(x:Frame):zU Z X (Frame.round r f tmps a b .normal) (x::l):=by
 refine⟨⟨λt _=>ht.getD _ iy,λx hx=>?_,by intro d hd;simp[Frame.round] at hd,.inl rfl,rfl,by intro l' e;simp[Frame.round] at e;exact e▸hl⟩,by simp⟩;simp only[Frame.round,aY,iH,or_false] at hx;rcases hx with rfl|rfl|rfl
 ·exact .code _ ha (fD _)
 ·exact .beginRound
 ·exact .code _ hb (fD _)
theorem MM{X:Tmp->Prop}{fr:Frame}(h:Dy Z X fr)(hne:fr.todo≠[]){κ:List Item}{d:Deferred}{b:Bool}{r:String}{s:Array Value}{k:List Item}(e:(ext fr κ).todo=.call d b r s::k):False:=by
 obtain⟨fn,tmps,todo,defers,mode,kind,roundOf⟩:=fr
 cases todo with
 | nil=>exact hne rfl
 | cons x t=>
  injection (show x::(t++κ)=_ from e) with e1;have:=h.todo x (by simp);rw[e1] at this;cases this
theorem Ey{B:Nat}{fn:FuncId}{es:Array Event}(h:∀e∈es,jd Z B e):∀e∈seen P fn es++#[],jd Z B e:=λe he=>by
 rw[gQ] at he;exact h e (Go.Conc.mem_seen he)
theorem raise_mode(fr:Frame)(v:List PanicEntry):∃c,(fr.raise v).mode=.panicking c/\(fr.raise v).defers=fr.defers:=by
 unfold Frame.raise;split<;>exact⟨_,rfl,rfl⟩
theorem Hz(fr:Frame)(κ:List Item)(v:List PanicEntry):(ext fr κ).raise v=ext (fr.raise v) κ:=by
 obtain⟨fn,tmps,todo,defers,mode,kind,roundOf⟩:=fr;cases mode<;>rfl
section
variable{Sh:Nat->Prop}{X:Tmp->Prop}
theorem Inv.same{fr fr':Frame}{l:List Frame}{w:World}(h:Inv Z Sh X fr l w)(h':zU (Zf Z Sh w.heap.size) X fr' l):Inv Z Sh X fr' l w:=⟨h',h.low,h.W⟩
theorem ZK(hP:∀Z',Le Z Z'->qo Z' P){fr:Frame}{l:List Frame}{w:World}(hI:Inv Z Sh X fr l w)(hm:fr.mode=.run)(hne:fr.todo≠[]){s:Sem Next}(hs:∀Z',Le (Zf Z Sh w.heap.size) Z'->Sf Z' P (rQ Z') s):
 St Z Sh X l w (λκ cs w=>stepG.apply P true (ext fr (kk l κ)) (low l κ cs) none s w):=by
 have hk:∀κ,((ext fr κ).kind==CallKind.early)=false:=λκ=>by show(fr.kind==CallKind.early)=false;rw[hI.fr.1.kind];rfl
 have hsn:∀κ es,seen P (ext fr κ).fn es=seen P fr.fn es:=λ_ _=>rfl;rcases both hs hI.W with⟨a,u,es,k,ha,hT,hn,hW',hsz,hev⟩|⟨h,u,es,k,ha,hT,hok,hsz,hW'⟩
 ·have hF:=hI.fr.mono (iD (Z:=Z) (Sh:=Sh) hsz);have hLo:=hI.low.mono (iD (Z:=Z) (Sh:=Sh) hsz);have hQ:=hP _ hW'.le
  cases hn with
  | value v hv=>
   refine .go (fr.finish v) l u (seen P fr.fn es++#[]) k ha (λκ cs τ p hA=>?_) ⟨hF.finish hv,hLo,hW'⟩ hsz (Ey hev);unfold stepG.apply;simp only[if_true,hk,hsn,hT τ p hA,O3 hne]
   rfl
  | skip=>
   refine .go (fr.finish undef) l u (seen P fr.fn es++#[]) k ha (λκ cs τ p hA=>?_) ⟨hF.finish iy,hLo,hW'⟩ hsz (Ey hev);unfold stepG.apply;simp only[if_true,hk,hsn,hT τ p hA,O3 hne]
   rfl
  | enter f args BK XV=>
   refine .go (Frame.enter P f args .normal) (fr::l) u (seen P fr.fn es++#[]) k ha (λκ cs τ p hA=>?_) ⟨b9j hQ BK XV l fr,⟨⟨hF,hm,hne⟩,hLo⟩,hW'⟩ hsz (Ey hev);unfold stepG.apply;simp only[if_true,hk,hsn,hT τ p hA];dsimp only[GStep.after];split
   ·rename_i e;exact(MM hI.fr.1 hne e).elim
   ·unfold Gr;show _=GStep.go {frame:=ext (Frame.enter P f args .normal) [],callers:=_,status:=_,dying:=_} _ _;rw[wM]
    rfl
  | round l0 f tmps a b hD ht XV hbb=>
   refine .go (Frame.round l0 f tmps a b .normal) (fr::l) u (seen P fr.fn es++#[]) k ha (λκ cs τ p hA=>?_) ⟨b9k hD f ht XV hbb l fr,⟨⟨hF,hm,hne⟩,hLo⟩,hW'⟩ hsz (Ey hev);unfold stepG.apply;simp only[if_true,hk,hsn,hT τ p hA];unfold Gr;show _=GStep.go {frame:=ext (Frame.round l0 f tmps a b .normal) [],callers:=_,status:=_,dying:=_} _ _;rw[wM];rfl
 ·cases h with
  | panic v=>
   obtain⟨c,hc,hd⟩:=raise_mode fr [{v,recovered:=false}];refine .bad (fr.raise [{v,recovered:=false}]) c u (seen P fr.fn es++#[]) k ha (λκ cs τ p hA=>?_) hc (by rw[hd];exact iK.mono (iD hsz) hI.fr.1.defers) hW' hsz;unfold stepG.apply;simp only[if_true,hk,hsn,hT τ p hA,Hz]
   rfl
  | stuck x=>
   refine .stop k λcs τ p hA=>?_;unfold stepG.apply;simp only[if_true,hk,hT τ p hA]
   trivial
  | unsupported u=>
   refine .stop k λcs τ p hA=>?_;unfold stepG.apply;simp only[if_true,hk,hT τ p hA]
   cases u<;>first|exact(hok:False).elim|trivial
  | _=>exact(hok:False).elim
theorem KD{id:Nat}:∀{k k':List Item},exitTo id k=some k'->∀x∈k',x∈k:=by
 intro k
 induction k with
 | nil=>intro k' h;cases h
 | cons y k ih=>
  intro k' h x hx
  cases y with
  | inBlock i=>
   unfold exitTo at h;split at h
   ·injection h with h;subst h;exact dR _ hx
   ·exact dR _ (ih h x hx)
  | _=>exact dR _ (ih (show exitTo id k=some k' from h) x hx)
theorem Ib{id:Nat}(κ:List Item):∀{k k':List Item},exitTo id k=some k'->exitTo id (k++κ)=some (k'++κ):=by
 intro k
 induction k with
 | nil=>intro k' h;cases h
 | cons y k ih=>
  intro k' h
  cases y with
  | inBlock i=>
   unfold exitTo at h;rw[List.cons_append];unfold exitTo;split at h
   ·rename_i e;rw[if_pos e];injection h with h;rw[h]
   ·rename_i e;rw[if_neg e];exact ih h
  | _=>exact ih (k':=k') h
theorem UU{id:Nat}:∀{k:List Item},exitTo id k=none->exitTo id (k++K0)=none:=by
 intro k
 induction k with
 | nil=>intro _;rfl
 | cons y k ih=>
  intro h
  cases y with
  | inBlock i=>
   unfold exitTo at h;rw[List.cons_append];unfold exitTo;split at h
   ·cases h
   ·rename_i e;rw[if_neg e];exact ih h
  | _=>exact ih h
theorem b2X:∀{c:Code}{l:Nat}{r:Code},eX Z c->findLabel c l=some r->eX Z r:=by
 intro c
 induction c with
 | seq a b iha ihb=>
  intro l r h e;unfold findLabel at e;split at e
  ·rename_i rest e1;injection e with e;subst e;exact⟨iha h.1 e1,h.2⟩
  ·exact ihb h.2 e
 | label l'=>
  intro l r h e;unfold findLabel at e;split at e
  ·injection e with e;subst e;trivial
  ·cases e
 | _=>intro l r h e;cases e
theorem b4u{X:Tmp->Prop}:∀{c:Code}{l:Nat}{r:Code},gX X c->findLabel c l=some r->gX X r:=by
 intro c
 induction c with
 | seq a b iha ihb=>
  intro l r h e;unfold findLabel at e;split at e
  ·rename_i rest e1;injection e with e;subst e;exact⟨iha h.1 e1,h.2⟩
  ·exact ihb h.2 e
 | label l'=>
  intro l r h e;unfold findLabel at e;split at e
  ·injection e with e;subst e;trivial
  ·cases e
 | _=>intro l r h e;cases e
theorem b9l{X:Tmp->Prop}{l:Nat}:∀{k k':List Item},(∀x∈k,nM Z X x)->gotoIn l k=some k'->∀x∈k',nM Z X x:=by
 intro k
 induction k with
 | nil=>intro k' _ h;cases h
 | cons y k ih=>
  intro k' hk h;have hk':∀x∈k,nM Z X x:=λx hx=>hk x (dR _ hx)
  cases y with
  | inScope body=>
   have hb:eX Z body/\gX X body:=by have:=hk (.inScope body) iL;cases this;exact⟨by assumption,by assumption⟩
   unfold gotoIn at h;split at h
   ·rename_i rest e;injection h with h;subst h;intro x hx;rcases aY.1 hx with rfl|hx
    ·exact .code _ (b2X hb.1 e) (b4u hb.2 e)
    rcases aY.1 hx with rfl|hx
    ·exact .inScope _ hb.1 hb.2
    ·exact hk' x hx
   ·exact ih hk' h
  | _=>exact ih hk' (show gotoIn l k=some k' from h)
theorem Uz{l:Nat}(κ:List Item):∀{k k':List Item},gotoIn l k=some k'->gotoIn l (k++κ)=some (k'++κ):=by
 intro k
 induction k with
 | nil=>intro k' h;cases h
 | cons y k ih=>
  intro k' h
  cases y with
  | inScope body=>
   unfold gotoIn at h;rw[List.cons_append];unfold gotoIn;split at h
   ·rename_i rest e;injection h with h;subst h;rfl
   ·exact ih h
  | _=>exact ih (k':=k') h
theorem UR{l:Nat}:∀{k:List Item},gotoIn l k=none->gotoIn l (k++K0)=none:=by
 intro k
 induction k with
 | nil=>intro _;rfl
 | cons y k ih=>
  intro h
  cases y with
  | inScope body=>
   unfold gotoIn at h;rw[List.cons_append];unfold gotoIn;split at h
   ·cases h
   ·exact ih h
  | _=>exact ih h
theorem mP{Z:Zone}{X:Tmp->Prop}{fr:Frame}(h:Dy Z X fr)(x:Operand)(hx:GH Z x)(hu:∀t,x=.tmp t->X t):VP Z (fr.eval x):=by
 cases x with
 | tmp t=>exact h.tmps t (hu t rfl)
 | const v=>exact hx
 | global g=>exact .ptr ⟨g,0,none⟩ hx
 | func f=>exact .func _ _ _ (.func f hx) AP.nil AP.nil
theorem uS{fr:Frame}{l:List Frame}{w:World}(hI:Inv Z Sh X fr l w){k:List Item}(hk:∀x∈k,nM (Zf Z Sh w.heap.size) (xx l X) x){s:List Item->List Frame->World->GStep}
 (h:∀κ cs w,s κ cs w=.go (Gr {fr with todo:=k} l κ cs) w #[]):St Z Sh X l w s:=
 .go {fr with todo:=k} l w #[] 0 ⟨rfl,rfl⟩ (λκ cs τ p _=>h κ cs _) (hI.same ⟨⟨hI.fr.1.tmps,hk,hI.fr.1.defers,hI.fr.1.mode,hI.fr.1.kind,hI.fr.1.round⟩,hI.fr.2⟩) (aj _) (by simp)
theorem pF(P:Program){fr c:Frame}{l:List Frame}(hk:fr.kind=.normal)(hc:c.todo≠[])(v:Value)(es:Array Event)(κ:List Item)(cs:List Frame)(w:World):
 GStep.after es (doReturn P true fr (low (c::l) κ cs) none v w)=.go (Gr (c.finish v) l κ cs) w (es++#[]):=by
 unfold doReturn;rw[hk];show GStep.after es (GStep.go {frame:=(ext c (kk l κ)).finish v,callers:=low l κ cs,status:=.running,dying:=none} w)=_;rw[O3 hc];rfl
theorem Ub{fr:Frame}{l:List Frame}{w:World}(hI:Inv Z Sh X fr l w)(j:Option Code)(hj:∀c,j=some c->PU c):
 St Z Sh X l w (λκ cs w=>match fr.roundOf with
  | none=>if (match j with|none=>true|some .ret=>true|_=>false)=true then .go {frame:={ext fr (kk l κ) with mode:=.returning},callers:=low l κ cs,status:=.running,dying:=none} w else .ended (.stuck "exit, goto: no such block or label" ((ext fr (kk l κ)).pos P)) w
  | some r=>let (r,es):=(Instr.endRound r j).runT P w #[]
   GStep.after (seen P fr.fn es) <| match r with
   | .ok v w=>doReturn P true (ext fr (kk l κ)) (low l κ cs) none v w
   | .halt _ w=>.ended (.stuck "range over a function: no such loop" ((ext fr (kk l κ)).pos P)) w):=by
 have hf:=hI.fr.1
 cases hr:fr.roundOf with
 | none=>
  have main:St Z Sh X l w (λκ cs w=>.go {frame:={ext fr (kk l κ) with mode:=.returning},callers:=low l κ cs,status:=.running,dying:=none} w):=
   .go {fr with mode:=.returning} l w #[] 0 ⟨rfl,rfl⟩ (λ_ _ _ _ _=>rfl) (hI.same ⟨⟨hf.tmps,hf.todo,hf.defers,.inr rfl,hf.kind,hf.round⟩,hI.fr.2⟩) (aj _) (by simp)
  cases j with
  | none=>exact main
  | some c=>
   cases c with
   | ret=>exact main
   | _=>exact .stop 0 λ_ _ _ _=>trivial
 | some r=>
  rcases both (λZ' hZ=>b4s (P:=P) (hZ.D _ (hf.round r hr)) j hj) hI.W with⟨v,u,es,k,ha,hT,hv,hW',hsz,hev⟩|⟨h,w',es,k,ha,hT,hok,hsz,hW'⟩
  ·cases l with
   | nil=>exact absurd (hI.fr.2 rfl) (by simp[hr])
   | cons c l=>
    obtain⟨⟨hc,hm,hne⟩,hl⟩:=hI.low.mono (iD (Z:=Z) (Sh:=Sh) hsz);refine .go (c.finish v) l u (seen P fr.fn es++#[]) k ha (λκ cs τ p hA=>?_) ⟨hc.finish hv,hl,hW'⟩ hsz (Ey hev);dsimp only;rw[hT τ p hA];exact pF P (fr:=ext fr (kk (c::l) κ)) hf.kind hne v _ κ cs _
  ·refine .stop k λcs τ p hA=>?_;dsimp only;rw[hT τ p hA];trivial
theorem LF{n m:Nat}{e:Event}(h:jd (Zf Z Sh n) n e)(hn:n<=m):jd (Zf Z Sh m) m e:=by
 unfold jd at *;split at h
 ·exact⟨h.1,⟨ak h.2.1.1 hn,h.2.1.2⟩,ak h.2.2 hn⟩
 ·exact⟨h.1,⟨ak h.2.1.1 hn,h.2.1.2⟩,ak h.2.2 hn⟩
 ·exact h
 ·exact h
 ·exact h.elim
theorem St.congr{l:List Frame}{w:World}{s s':List Item->List Frame->World->GStep}(h:∀κ cs w,s κ cs w=s' κ cs w)(k:St Z Sh X l w s'):St Z Sh X l w s:=by
 have:s=s':=by funext κ cs w;exact h κ cs w
 rw[this];exact k
theorem LE(hP:∀Z',Le Z Z'->qo Z' P){fr:Frame}{l:List Frame}{w:World}(hI:Inv Z Sh X fr l w)(hm:fr.mode=.run)(hne:¬(l=[]/\fr.todo=[])):
 St Z Sh X l w (λκ cs w=>stepG.exec P true true (ext fr (kk l κ)) (low l κ cs) none w):=by
 obtain⟨fn,tmps,todo,defers,mode,kind,roundOf⟩:=fr;dsimp only at hm hne;subst hm;have hf:=hI.fr.1
 cases todo with
 | nil=>
  cases l with
  | nil=>exact absurd ⟨rfl,rfl⟩ hne
  | cons c l=>exact Ub hI none (by simp)
 | cons x k=>
  have hk:∀y∈k,nM (Zf Z Sh w.heap.size) (xx l X) y:=λy hy=>hf.todo y (by simp[hy]);have hx:=hf.todo x (by simp);have c1:∀{n:Nat}{a:Item},w.heap.size<=n->nM (Zf Z Sh n) (xx l X) a->∀y∈a::k,nM (Zf Z Sh n) (xx l X) y:=λhn ha y hy=>by
   rcases aY.1 hy with rfl|hy
   ·exact ha
   ·exact(hk y hy).mono (iD hn)
  have c2:∀{a b:Item},nM (Zf Z Sh w.heap.size) (xx l X) a->nM (Zf Z Sh w.heap.size) (xx l X) b->∀y∈a::b::k,nM (Zf Z Sh w.heap.size) (xx l X) y:=λha hb y hy=>by
   rcases aY.1 hy with rfl|hy
   ·exact ha
   ·exact c1 (aj _) hb y hy
  cases hx with
  | inBlock id=>exact uS hI hk λ_ _ _=>rfl
  | inScope c h hu=>exact uS hI hk λ_ _ _=>rfl
  | inLoop c h hu=>exact uS hI (c2 (.code _ h hu) (.inLoop _ h hu)) λ_ _ _=>rfl
  | inRangeFunc l0 h=>exact .stop 0 λ_ _ _ _=>trivial
  | beginRound=>
   refine ZK hP hI rfl (by simp) (s:=do roundOf.elim (stuck "beginRound: no round") Instr.beginRound;pure .skip) λZ' hZ=>?_
   cases roundOf with
   | none=>exact(trivial:dV (.stuck _))
   | some r=>exact SL (b0E (hP Z' (hI.W.le.trans hZ)).toPOK (hZ.D _ (hf.round r rfl)))
  | endRangeFunc l0 h=>
   rcases both (λZ' hZ=>b6m (P:=P) (hP Z' (hI.W.le.trans hZ)).toPOK (hZ.D _ h)) hI.W with⟨j,u,es,Sr,ha,hT,hj,hW',hsz,hev'⟩|⟨x,u,es,Sr,ha,hT,hok,hsz,hW'⟩
   ·have hF:=hI.fr.mono (iD (Z:=Z) (Sh:=Sh) hsz);refine .go ⟨fn,tmps,(j.map Item.code).toList++k,defers,.run,kind,roundOf⟩ l u (seen P fn es++#[]) Sr ha (λκ cs τ p hA=>?_) ⟨⟨⟨hF.1.tmps,λy hy=>?_,hF.1.defers,hF.1.mode,hF.1.kind,hF.1.round⟩,hF.2⟩,hI.low.mono (iD hsz),hW'⟩ hsz (Ey hev')
    ·unfold stepG.exec ext;dsimp only[List.cons_append];rw[hT τ p hA];unfold Gr ext;rw[fH];rfl
    ·cases j with
     | none=>exact(hk y (by simpa using hy)).mono (iD hsz)
     | some c=>
      rcases aY.1 (show y∈Item.code c::k from hy) with rfl|hy
      ·
       exact b6q (hj c rfl)
      ·exact(hk y hy).mono (iD hsz)
   ·cases x with
    | panic v=>
     obtain⟨c,hc,hd⟩:=raise_mode ⟨fn,tmps,.endRangeFunc l0::k,defers,.run,kind,roundOf⟩ [{v,recovered:=false}];refine .bad (Frame.raise ⟨fn,tmps,.endRangeFunc l0::k,defers,.run,kind,roundOf⟩ [{v,recovered:=false}]) c u (seen P fn es++#[]) Sr ha (λκ cs τ p hA=>?_) hc (by rw[hd];exact iK.mono (iD hsz) hf.defers) hW' hsz;unfold stepG.exec ext;dsimp only[List.cons_append];rw[hT τ p hA]
     rfl
    | _=>
     refine .stop Sr λcs τ p hA=>?_;unfold stepG.exec ext;dsimp only[List.cons_append];rw[hT τ p hA]
     trivial
  | inRegion ops is h hu=>
   cases is with
   | nil=>exact uS hI hk λ_ _ _=>rfl
   | cons i rest=>
    by_cases hw:((ops[i]?).map (Region.wanted · (yielded ops tmps))).getD false=true
    ·cases ho:ops[i]? with
     | none=>rw[ho] at hw;cases hw
     | some o=>
      have hop:ES (Zf Z Sh w.heap.size) o.op:=h o (Array.mem_of_getElem? ho);have hou:Rn (xx l X) o.op:=hu o (Array.mem_of_getElem? ho);have main:=ZK hP hI rfl (by simp) (s:=execOp (Frame.eval ⟨fn,tmps,.inRegion ops (i::rest)::k,defers,.run,kind,roundOf⟩) o) λZ' hZ=>
       oP (hP Z' (hI.W.le.trans hZ)) (hop.mono hZ).1 λx hx=>mP (hf.mono hZ) x ((hop.mono hZ).2 x hx) λt e=>hou x hx t e
      refine St.congr (λκ cs w=>?_) main;have e1:(Frame.oper? (ext ⟨fn,tmps,.inRegion ops (i::rest)::k,defers,.run,kind,roundOf⟩ (kk l κ)))=some o:=ho;have e3:=wJ ⟨fn,tmps,.inRegion ops (i::rest)::k,defers,.run,kind,roundOf⟩ (kk l κ);rw[<-e3];show stepG.exec P true true ⟨fn,tmps,.inRegion ops (i::rest)::(k++kk l κ),defers,.run,kind,roundOf⟩ (low l κ cs) none w=_;unfold stepG.exec;dsimp only;rw[if_pos hw];unfold stepG.oper;simp only[show(Frame.oper? ⟨fn,tmps,.inRegion ops (i::rest)::(k++kk l κ),defers,.run,kind,roundOf⟩)=some o from ho];split
      ·rename_i hd;rw[hd] at hop;exact hop.1.elim
      ·rfl
    ·have hF:=hI.fr.finish (iy);refine .go (Frame.finish ⟨fn,tmps,.inRegion ops (i::rest)::k,defers,.run,kind,roundOf⟩ undef) l w #[] 0 ⟨rfl,rfl⟩ (λκ cs τ p _=>?_) (hI.same hF) (aj _) (by simp);unfold Gr;rw[<-O3 (by simp)];show stepG.exec P true true ⟨fn,tmps,.inRegion ops (i::rest)::(k++kk l κ),defers,.run,kind,roundOf⟩ (low l κ cs) none _=_;unfold stepG.exec;dsimp only;rw[if_neg hw]
     rfl
  | code c hc hu=>
   cases c with
   | skip=>exact uS hI hk λ_ _ _=>rfl
   | label _=>exact uS hI hk λ_ _ _=>rfl
   | seq a b=>exact uS hI (c2 (.code _ hc.1 hu.1) (.code _ hc.2 hu.2)) λ_ _ _=>rfl
   | cond c a b=>
    by_cases ht:∃t,Frame.eval ⟨fn,tmps,.code (.cond c a b)::k,defers,.run,kind,roundOf⟩ c=.bool t
    ·obtain⟨t,ht⟩:=ht;refine uS hI (k:=.code (if t then a else b)::k) (c1 (aj _) (.code _ ?_ ?_)) λκ cs w=>?_
     ·split
      ·exact hc.1
      ·exact hc.2
     ·split
      ·exact hu.1
      ·exact hu.2
     ·rw[<-wJ _ (kk l κ)] at ht;unfold stepG.exec ext;dsimp only[List.cons_append];dsimp only[ext,List.cons_append] at ht;rw[ht];rfl
    ·refine .stop 0 λcs τ p _=>?_;rw[<-wJ _ (kk l K0)] at ht;unfold stepG.exec ext;dsimp only[ext,List.cons_append] at ht⊢;split
     ·rename_i t e;exact absurd ⟨t,e⟩ ht
     ·trivial
   | block id b=>exact uS hI (c2 (.code b hc hu) (.inBlock id)) λ_ _ _=>rfl
   | loop b=>exact uS hI (c2 (.code b hc hu) (.inLoop b hc hu)) λ_ _ _=>rfl
   | scope b=>exact uS hI (c2 (.code b hc hu) (.inScope b hc hu)) λ_ _ _=>rfl
   | ret=>exact Ub hI (some .ret) (by rintro _ ⟨⟩;trivial)
   | refuse why=>exact .stop 0 λ_ _ _ _=>trivial
   | exit id=>
    cases e:exitTo id k with
    | none=>
     cases l with
     | nil=>
      refine .stop 0 λcs τ p _=>?_;have hr:roundOf=none:=hI.fr.2 rfl;subst hr;show Stops (stepG.exec P true true ⟨fn,tmps,.code (.exit id)::(k++K0),defers,.run,kind,none⟩ _ none _);unfold stepG.exec;dsimp only;rw[UU e]
      trivial
     | cons c l=>
      refine St.congr (λκ cs w=>?_) (Ub (P:=P) hI (some (.exit id)) (by rintro _ ⟨⟩;trivial));show stepG.exec P true true ⟨fn,tmps,.code (.exit id)::(k++[]),defers,.run,kind,roundOf⟩ _ none _=_;unfold stepG.exec;dsimp only;rw[dO,e];show _=(match roundOf with|none=>_|some r=>_)
      cases roundOf with
      | none=>rfl
      | some r=>dsimp only[kk];rw[wM];rfl
    | some k'=>
     refine uS hI (λy hy=>hk y (KD e y hy)) λκ cs w=>?_;show stepG.exec P true true ⟨fn,tmps,.code (.exit id)::(k++kk l κ),defers,.run,kind,roundOf⟩ _ none _=_;unfold stepG.exec;dsimp only;rw[Ib _ e]
     rfl
   | goto l0=>
    cases e:gotoIn l0 k with
    | none=>
     cases l with
     | nil=>
      refine .stop 0 λcs τ p _=>?_;have hr:roundOf=none:=hI.fr.2 rfl;subst hr;show Stops (stepG.exec P true true ⟨fn,tmps,.code (.goto l0)::(k++K0),defers,.run,kind,none⟩ _ none _);unfold stepG.exec;dsimp only;rw[UR e]
      trivial
     | cons c l=>
      refine St.congr (λκ cs w=>?_) (Ub (P:=P) hI (some (.goto l0)) (by rintro _ ⟨⟩;trivial));show stepG.exec P true true ⟨fn,tmps,.code (.goto l0)::(k++[]),defers,.run,kind,roundOf⟩ _ none _=_;unfold stepG.exec;dsimp only;rw[dO,e];show _=(match roundOf with|none=>_|some r=>_)
      cases roundOf with
      | none=>rfl
      | some r=>dsimp only[kk];rw[wM];rfl
    | some k'=>
     refine uS hI (b9l hk e) λκ cs w=>?_;show stepG.exec P true true ⟨fn,tmps,.code (.goto l0)::(k++kk l κ),defers,.run,kind,roundOf⟩ _ none _=_;unfold stepG.exec;dsimp only;rw[Uz _ e]
     rfl
   | region id ops draw=>
    cases draw with
    | false=>exact uS hI (c1 (aj _) (.inRegion ops _ hc hu)) λ_ _ _=>rfl
    | true=>
     refine .go ⟨fn,tmps,.inRegion ops (Region.schedule (P.follows .mixedOrders) ops ((Question.order fn id).cut (w.tape w.drawn (.order fn id))))::k,defers,.run,kind,roundOf⟩ l {w with drawn:=w.drawn+1} #[] 1 ⟨rfl,rfl⟩ (λκ cs τ p hA=>?_) ⟨⟨⟨hf.tmps,c1 (aj _) (.inRegion ops _ hc hu),hf.defers,hf.mode,hf.kind,hf.round⟩,hI.fr.2⟩,hI.low,⟨hI.W.obj,hI.W.sh,hI.W.base⟩⟩ (aj _) (by simp);have h0:τ p (.order fn id)=w.tape w.drawn (.order fn id):=by simpa using hA 0 (by omega) (.order fn id)
     show GStep.go _ _ _=_;rw[<-h0]
     rfl
   | rangeFunc f params assign body=>
    have sr:AP (Zf Z Sh w.heap.size) tmps:=vB λt _=>hf.tmps t (hu.1 t);rcases both (λZ' hZ=>b2V (P:=P) (fn:=fn) (sr.mono hZ) params (hc.2.1.mono hZ) (hc.2.2.mono hZ) (λl e=>hZ.D _ (hf.round l e))) hI.W with⟨r,u,es,k1,ha,hT,⟨hr,hds⟩,hW',hsz,hev'⟩|⟨x,w',es,k1,ha,hT,hok,hsz,hW'⟩
    ·obtain⟨l0,mark⟩:=r;have hF:=hI.fr.mono (iD (Z:=Z) (Sh:=Sh) hsz);have hI':Inv Z Sh X ⟨fn,tmps,.inRangeFunc l0::k,mark++defers,.run,kind,roundOf⟩ l u:=
      ⟨⟨⟨hF.1.tmps,c1 hsz (.inRangeFunc _ hr),λd hd=>(aU.1 hd).elim (hds d) (hF.1.defers d),hF.1.mode,hF.1.kind,hF.1.round⟩,hF.2⟩,hI.low.mono (iD hsz),hW'⟩
     have main:=ZK hP hI' rfl (by simp) (s:=do let d <-resolve (Frame.eval ⟨fn,tmps,.inRangeFunc l0::k,mark++defers,.run,kind,roundOf⟩) {callee:=.value f,args:=#[.const (.func (.yield l0) #[] #[])],argTypes:=#[]} 0;invoke d.target d.args) (λZ' hZ=>by
      refine Sf.bind (M6 (c:={callee:=.value f,args:=#[.const (.func (.yield l0) #[] #[])],argTypes:=#[]}) (λx hx=>mP (hI'.fr.1.mono hZ) x ?_ λt _=>hu.1 t) (show JV Z' (.value f) from trivial) _) λd hd=>I6 (hP Z' (hI'.W.le.trans hZ)) hd;simp[Call.operands] at hx;rcases hx with rfl|rfl
      ·exact hc.1.mono ((iD hsz).trans hZ)
      ·exact .func _ _ _ (.yield _ (hZ.D _ hr)) AP.nil AP.nil)
     have e2:∀κ cs τ p,Agree w k1 τ p->stepG.exec P true true (ext ⟨fn,tmps,.code (.rangeFunc f params assign body)::k,defers,.run,kind,roundOf⟩ (kk l κ)) (low l κ cs) none (tp w τ p)=GStep.after (seen P fn es) (stepG.apply P true (ext ⟨fn,tmps,.inRangeFunc l0::k,mark++defers,.run,kind,roundOf⟩ (kk l κ)) (low l κ cs) none (do let d <-resolve (Frame.eval ⟨fn,tmps,.inRangeFunc l0::k,mark++defers,.run,kind,roundOf⟩) {callee:=.value f,args:=#[.const (.func (.yield l0) #[] #[])],argTypes:=#[]} 0;invoke d.target d.args) (tp u τ (p+k1))):=λκ cs τ p hA=>by
      show stepG.exec P true true ⟨fn,tmps,.code (.rangeFunc f params assign body)::(k++kk l κ),defers,.run,kind,roundOf⟩ _ none _=_;rw[<-wJ ⟨fn,tmps,.inRangeFunc l0::k,mark++defers,.run,kind,roundOf⟩ (kk l κ)];unfold stepG.exec;dsimp only;rw[hT τ p hA];rfl
     cases main with
     | go fr' l' w' es' k2 a2 h h1 h5 h6=>
      refine .go fr' l' w' (seen P fn es++es') (k1+k2) (ha.trans a2) (λκ cs τ p hA=>?_) h1 (ay hsz h5) ?_
      ·rw[e2 κ cs τ p hA.left,h κ cs τ (p+k1) (hA.right ha),jF];rfl
      ·intro e he;rcases dh.1 he with he|he
       ·exact LF (hev' e (Go.Conc.mem_seen he)) h5
       ·exact h6 e he
     | bad fr' c w' es' k2 a2 h hm hd hW2 hs2=>
      refine .bad fr' c w' (seen P fn es++es') (k1+k2) (ha.trans a2) (λκ cs τ p hA=>?_) hm hd hW2 (ay hsz hs2)
      rw[e2 κ cs τ p hA.left,h κ cs τ (p+k1) (hA.right ha),jF];rfl
     | stop k2 h=>
      refine .stop (k1+k2) λcs τ p hA=>?_;have:=h cs τ (p+k1) (hA.right ha);rw[e2 K0 cs τ p hA.left];revert this;generalize stepG.apply P true _ _ _ _ _=x;intro this;cases x<;>first|trivial|exact this.elim
    ·refine .stop k1 λcs τ p hA=>?_;show Stops (stepG.exec P true true ⟨fn,tmps,.code (.rangeFunc f params assign body)::(k++kk l K0),defers,.run,kind,roundOf⟩ _ none _);unfold stepG.exec;dsimp only;rw[hT τ p hA];trivial
theorem b6r{fn:Func}{tmps:Array Value}(hP:POK Z P)(h:AP Z tmps):Sf Z P (VP Z) (results fn tmps):=by
 unfold results;refine Sf.bind (vD (I:=VP Z) _ _ λr _=>?_) λvs hvs=>Sf.pure ?_
 ·split
  ·exact Sf.pure (h.getD _ iy)
  ·exact Sf.bind (Ku hP (h.getD _ iy)) λa ha=>EK _ ha
 ·split
  ·exact hvs _ (iY _)
  ·exact .tuple _ hvs
theorem Hy(x:Frame)(l:List Frame)(κ:List Item)(cs:List Frame):low (x::l) κ cs=ext x (kk l κ)::low l κ cs:=rfl
theorem b9m(hP:∀Z',Le Z Z'->qo Z' P){fr:Frame}{l:List Frame}{w:World}(hI:Inv Z Sh X fr l w)(hm:fr.mode=.returning)(hne:¬(l=[]/\fr.defers=[])):
 St Z Sh X l w (λκ cs w=>unwind P true (ext fr (kk l κ)) (low l κ cs) none w):=by
 have hf:=hI.fr.1;have em:∀k,(ext fr k).mode=.returning:=λ_=>hm;have ed:∀k,(ext fr k).defers=fr.defers:=λ_=>rfl;have en:∀k,(ext fr k).fn=fr.fn:=λ_=>rfl;have et:∀k,(ext fr k).tmps=fr.tmps:=λ_=>rfl
 cases hd:fr.defers with
 | cons d ds=>
  obtain⟨r,rfl,hr⟩:=hf.defers d (by rw[hd];simp);rcases both (λZ' hZ=>az (P:=P) (hZ.D _ hr)) hI.W with⟨c,u,es,k1,ha,hT,rfl,hW',hsz,hev⟩|⟨x,w',es,k1,ha,hT,hok,hsz,hW'⟩
  ·have hF:=hI.fr.mono (iD (Z:=Z) (Sh:=Sh) hsz);refine .go {fr with defers:=ds} l u (seen P fr.fn es++#[]) k1 ha (λκ cs τ p hA=>?_) ⟨⟨⟨hF.1.tmps,hF.1.todo,λd h=>hF.1.defers d (by rw[hd];simp[h]),.inr hm,hF.1.kind,hF.1.round⟩,hF.2⟩,hI.low.mono (iD hsz),hW'⟩ hsz (Ey hev);unfold unwind;rw[ed,hd];dsimp only;rw[hT τ p hA];rfl
  ·refine .stop k1 λcs τ p hA=>?_;unfold unwind;rw[ed,hd];dsimp only;rw[hT τ p hA]
   trivial
 | nil=>
  cases l with
  | nil=>exact absurd ⟨rfl,hd⟩ hne
  | cons c l=>
   cases hfn:P.funcs[fr.fn]? with
   | none=>
    obtain⟨⟨hc,-,hcn⟩,hl⟩:=hI.low;refine .go (c.finish (fr.tmps.getD 0 undef)) l w #[] 0 ⟨rfl,rfl⟩ (λκ cs τ p _=>?_) ⟨hc.finish (hf.tmps 0 trivial),hl,hI.W⟩ (aj _) (by simp);unfold unwind;rw[ed,hd,em];dsimp only;rw[en,hfn];dsimp only;unfold doReturn;rw[show(ext fr (kk (c::l) κ)).kind=.normal from hf.kind];rw[Hy];dsimp only;rw[O3 hcn]
    rfl
   | some fn=>
    rcases both (λZ' hZ=>b6r (fn:=fn) (hP Z' (hI.W.le.trans hZ)).toPOK (AP.mono hZ (vB hf.tmps))) hI.W with⟨v,u,es,k1,ha,hT,hv,hW',hsz,hev⟩|⟨x,w',es,k1,ha,hT,hok,hsz,hW'⟩
    ·obtain⟨⟨hc,-,hcn⟩,hl⟩:=hI.low.mono (iD (Z:=Z) (Sh:=Sh) hsz);refine .go (c.finish v) l u (seen P fr.fn es++#[]) k1 ha (λκ cs τ p hA=>?_) ⟨hc.finish hv,hl,hW'⟩ hsz (Ey hev);unfold unwind;rw[ed,hd,em];dsimp only;rw[en,hfn];dsimp only;rw[et,hT τ p hA];exact pF P (fr:=ext fr (kk (c::l) κ)) hf.kind hcn v _ κ cs _
    ·refine .stop k1 λcs τ p hA=>?_;unfold unwind;rw[ed,hd,em];dsimp only;rw[en,hfn];dsimp only;rw[et,hT τ p hA];cases x<;>trivial
def Stop(fr:Frame)(l:List Frame):Prop:=l=[]/\((fr.mode=.run/\fr.todo=[])\/(fr.mode=.returning/\fr.defers=[]))
theorem Lt(hP:∀Z',Le Z Z'->qo Z' P){fr:Frame}{l:List Frame}{w:World}(hI:Inv Z Sh X fr l w)(hne:¬Stop fr l):
 St Z Sh X l w (λκ cs w=>stepG P true (Gr fr l κ cs) w):=by
 rcases hI.fr.1.mode with hm|hm
 ·refine St.congr (λκ cs w=>?_) (LE hP hI hm λh=>hne ⟨h.1,.inl ⟨hm,h.2⟩⟩);unfold stepG Gr;dsimp only;rw[show(ext fr (kk l κ)).mode=.run from hm]
 ·refine St.congr (λκ cs w=>?_) (b9m hP hI hm λh=>hne ⟨h.1,.inr ⟨hm,h.2⟩⟩);unfold stepG Gr;dsimp only;rw[show(ext fr (kk l κ)).mode=.returning from hm]
end
end
section
open Go.Extern.Rtype
variable{Z:Zone}{P:Program}
theorem Ud(a:String)(t:TypeId):Sf Z P (λ_=>True) (noPack a t):=by
 unfold noPack;refine Sf.bind F9 λp _=>?_;split
 ·exact I4 _ trivial
 ·exact Sf.pure trivial
theorem b0H(a:String)(t:TypeId):Sf Z P (λ_=>True) (noPackHeld a t):=by
 unfold noPackHeld;refine Sf.bind F9 λp _=>Sf.bind F9 λp _=>?_;split
 ·exact I4 _ trivial
 ·exact Sf.pure trivial
theorem a9X(a:String)(t:TypeId):Sf Z P (λ_=>True) (noPackNamed a t):=by
 unfold noPackNamed;refine Sf.bind F9 λp _=>Sf.bind F9 λp _=>?_;split
 ·exact I4 _ trivial
 ·exact Sf.pure trivial
theorem QZ(a:String)(t:TypeId):Sf Z P (λ_=>True) (noPackMethods a t):=by
 unfold noPackMethods;refine Sf.bind F9 λp _=>Sf.bind F9 λp _=>?_;split
 ·exact I4 _ trivial
 ·exact Sf.pure trivial
theorem ZJ(t:TypeId):Sf Z P (λ_=>True) (spelt t):=Sf.bind (a9X _ _) λ_ _=>UE t
theorem JZ(t:TypeId):Sf Z P (λ_=>True) (under t):=by
 unfold under;refine Sf.bind (J4 t) λi _=>?_;split
 ·exact Sf.bind (J4 _) λ_ _=>Sf.pure trivial
 ·exact Sf.pure trivial
theorem TL(t:TypeId):Sf Z P (λ_=>True) (kind t):=by
 unfold kind;refine Sf.bind (JZ t) λx _=>?_;dsimp only;split<;>first|exact Sf.pure trivial|exact l7 _
theorem M5(t:TypeId):Sf Z P (λ_=>True) (hasName t):=by
 unfold hasName;refine Sf.bind (J4 t) λx _=>?_;split<;>exact Sf.pure trivial
theorem Bt(t:TypeId):Sf Z P (λ_=>True) (elem? t):=by
 unfold elem?;refine Sf.bind (JZ t) λx _=>?_;split<;>exact Sf.pure trivial
theorem Vj(t v:TypeId):Sf Z P (λ_=>True) (implements t v):=by
 unfold implements;refine Sf.bind (QZ _ _) λ_ _=>Sf.bind (QZ _ _) λ_ _=>Sf.bind (JZ _) λ_ _=>Sf.bind (JZ _) λ_ _=>?_;split
 ·exact Sf.pure trivial
 ·exact Sf.bind (J4 _) λ_ _=>Sf.pure trivial
 ·exact Sf.pure trivial
theorem N6(t v:TypeId):Sf Z P (λ_=>True) (directlyAssignable t v):=by
 unfold directlyAssignable;dsimp only;split
 ·exact Sf.pure trivial
 ·refine Sf.bind (R:=λ_=>True) (M5 t) λb _=>?_;have rest:Sf Z P (λ_:Bool=>True) (do let __x <-under t;let __x_1 <-under v;match __x.snd.desc,__x_1.snd.desc with|.chan _ e,.chan .both e'=>pure (__x.fst==__x_1.fst||e==e')|_,_=>pure (__x.fst==__x_1.fst)):=by
   refine Sf.bind (JZ _) λ_ _=>Sf.bind (JZ _) λ_ _=>?_;split<;>exact Sf.pure trivial
  refine Sf.bind (R:=λ_=>True) (M5 v) λb' _=>?_;split
  ·exact Sf.pure trivial
  ·exact rest
theorem cR(h:Value):Sf Z P (λ_=>True) (ofHandle h):=by
 unfold ofHandle;refine Sf.bind F9 λp _=>?_;split
 ·exact Sf.pure trivial
 ·exact l7 _
theorem I3(hP:POK Z P)(t:TypeId):Sf Z P (VP Z) (handle t):=by
 unfold handle;refine Sf.bind F9 ?_;rintro p rfl;exact Sf.pure (.ptr _ hP.handle)
theorem NX(n:String):Sf Z P (λ_=>True) (cutType n):=by
 unfold cutType;refine Sf.bind F9 λp _=>?_;split
 ·exact Sf.pure trivial
 ·exact l7 _
def qT(Z:Zone):Prop:=∀t,Z.T t
section
variable(hT:qT Z)(hP:POK Z P)
include hT hP
open Go.Extern
theorem ZX(t:TypeId):Sf Z P (VP Z) (ReflectliteType.toType t):=by
 unfold ReflectliteType.toType;exact Sf.bind (NX _) λu _=>Sf.bind (I3 hP t) λh hh=>Sf.pure (.iface _ _ (hT _) (.agg _ (AP.one hh)))
theorem b9n{args:Array Value}(_:AP Z args):Sf Z P (VP Z) (ReflectliteType.typeOf args):=by
 obtain⟨l⟩:=args;rcases l with _|⟨x,_|⟨y,l⟩⟩
 ·exact l7 _
 ·cases x<;>first|exact Sf.pure .nilIface|exact ZX hT hP _|exact l7 _
 ·cases x<;>exact l7 _
omit hT hP in
theorem cA(v:Value):Sf Z P (λ_=>True) (ReflectliteType.ofRtype v):=by
 cases v<;>first|exact l7 _|skip
 rename_i c;obtain⟨l⟩:=c;rcases l with _|⟨x,_|⟨y,l⟩⟩
 ·exact l7 _
 ·exact Sf.bind (cR _) λ_ _=>Sf.bind (Ud _ _) λ_ _=>Sf.pure trivial
 ·exact l7 _
theorem Vb{α:Type}{Q:α->Prop}(s:String):Sf Z P Q (panicString s:Sem α):=by
 unfold panicString
 first
  | exact EL _
  | (refine Sf.bind F9 λp _=>?_;exact EL _)
omit hT hP in
theorem I0{f:TypeId->Sem Value}(hf:∀t,Sf Z P (VP Z) (f t))(args:Array Value):Sf Z P (VP Z) (ReflectliteType.method f args):=by
 obtain⟨l⟩:=args;rcases l with _|⟨x,_|⟨y,l⟩⟩
 ·exact l7 _
 ·exact Sf.bind (cA _) λt _=>hf t
 ·exact l7 _
theorem c2P(t:TypeId):Sf Z P (VP Z) (ReflectliteType.elem t):=by
 unfold ReflectliteType.elem;refine Sf.bind (Bt t) λe _=>?_;split
 ·exact ZX hT hP _
 ·exact Sf.bind (ZJ _) λ_ _=>Vb hT hP _
omit hT hP in
theorem b0I(t:TypeId):Sf Z P (VP Z) (do noPackHeld "Comparable" t;pure (.bool (<-typeInfo t).comparable)):=Sf.bind (b0H _ _) λ_ _=>Sf.bind (J4 _) λ_ _=>Sf.pure (.bool _)
theorem N5{a:String}{f:TypeId->TypeId->Sem Bool}(hf:∀t u,Sf Z P (λ_=>True) (f t u))(args:Array Value):Sf Z P (VP Z) (ReflectliteType.relation a f args):=by
 obtain⟨l⟩:=args;rcases l with _|⟨x,_|⟨y,_|⟨z,l⟩⟩⟩
 ·exact l7 _
 ·exact l7 _
 ·cases y<;>first
   | exact Vb hT hP _
   | exact Sf.bind (cA _) λ_ _=>Sf.bind (cA _) λ_ _=>Sf.bind (hf _ _) λ_ _=>Sf.pure (.bool _)
   | exact l7 _
 ·cases y<;>exact l7 _
theorem a94(u t:TypeId):Sf Z P (λ_=>True) (ReflectliteType.implements_ u t):=by
 unfold ReflectliteType.implements_;refine Sf.bind (TL u) λk _=>?_;have rest:Sf Z P (λ_:Bool=>True) (do noPackMethods "Implements" t;noPack "Implements" u;implements u t):=Sf.bind (QZ _ _) λ_ _=>Sf.bind (Ud _ _) λ_ _=>Vj _ _;dsimp only;split
 ·exact Sf.bind (R:=λ_=>True) (Vb hT hP _) λ_ _=>rest
 ·exact rest
theorem a8B(u t:TypeId):Sf Z P (λ_=>True) (ReflectliteType.assignableTo u t):=by
 unfold ReflectliteType.assignableTo;have rest:Sf Z P (λ_:Bool=>True) (do pure ((<-directlyAssignable u t)||(<-implements u t))):=by
  refine Sf.bind (N6 u t) λb _=>?_
  first
   | exact Sf.bind (Vj _ _) λ_ _=>Sf.pure trivial
   | (cases b
      ·exact Sf.bind (Vj _ _) λ_ _=>Sf.pure trivial
      ·exact Sf.pure trivial)
 dsimp only;split
 ·exact Sf.bind (QZ _ _) λ_ _=>Sf.bind (QZ _ _) λ_ _=>rest
 ·exact rest
theorem b21{f:TypeId->Sem Value}(hf:∀t,Sf Z P (VP Z) (f t))(args:Array Value):Sf Z P (VP Z) (ReflectliteType.abiMethod f args):=by
 obtain⟨l⟩:=args;rcases l with _|⟨x,_|⟨y,l⟩⟩
 ·exact l7 _
 ·exact Sf.bind (cR _) λt _=>Sf.bind (Ud _ _) λ_ _=>hf t
 ·exact l7 _
theorem sA(t:TypeId){a:Addr}(h:Z.D a.block)(fl:Nat):Sf Z P (VP Z) (ReflectliteValue.mk t a fl):=by
 unfold ReflectliteValue.mk;exact Sf.bind (I3 hP t) λv hv=>Sf.bind (TL t) λk _=>Sf.pure (.agg _ (λx hx=>by
  simp at hx;rcases hx with rfl|rfl|rfl
  ·exact hv
  ·exact .ptr a h
  ·exact .int _ _))
omit hT hP in
theorem Br:VP Z ReflectliteValue.zeroV:=.agg _ λx hx=>by
 simp at hx;rcases hx with rfl|rfl|rfl
 ·exact .jc
 ·exact .int _ _
theorem IT{v:Value}(h:VP Z v):Sf Z P (VP Z) (ReflectliteValue.unpack v):=by
 cases h with
 | nilIface=>exact Sf.pure Br
 | iface t w ht hw=>exact Sf.bind (Kv t hw) λa ha=>sA hT hP t ha 0
 | _=>exact l7 _
theorem KH{α:Type}{Q:α->Prop}(m:String)(k:Nat):Sf Z P Q (ReflectliteValue.valueError m k:Sem α):=by
 unfold ReflectliteValue.valueError;exact Sf.bind (NX _) λt _=>Sf.bind (EM _) λe _=>Sf.bind (Kv e (.agg _ λx hx=>by
  simp at hx;rcases hx with rfl|rfl
  ·exact .string _
  ·exact .int _ _)) λa _=>EL _
theorem N4{v:Value}(h:VP Z v):Sf Z P (λo=>∀t a fl,o=some (t,a,fl)->Z.D a.block) (ReflectliteValue.partsAny v):=by
 have key:∀(hd:Value)(a:Addr)(f:Nat),Z.D a.block->Sf Z P (λo=>∀t a fl,o=some (t,a,fl)->Z.D a.block) (do pure (some (<-ofHandle hd,a,f)):Sem (Option (TypeId×Addr×Nat))):=λhd a f ha=>
  Sf.bind (cR _) λt _=>Sf.pure λt' a' pQ e=>by
   simp only[bJ,kH] at e;obtain⟨_,rfl,_⟩:=e;exact ha
 cases h<;>first|exact l7 _|skip
 rename_i c hc;obtain⟨l⟩:=c;rcases l with _|⟨x,_|⟨y,_|⟨z,_|⟨u,l⟩⟩⟩⟩
 ·exact l7 _
 ·exact l7 _
 ·exact l7 _
 ·have hy:=hc y (by simp);cases z<;>first|exact l7 _|skip
  rename_i k n;cases k<;>first|exact l7 _|skip
  cases n with
  | ofNat n=>
   cases n with
   | zero=>exact Sf.pure λ_ _ _ h=>by cases h
   | succ n=>
    cases hy with
    | ptr a ha=>exact key x a (n+1) ha
    | _=>exact l7 _
  | negSucc n=>
   cases hy with
   | ptr a ha=>exact key x a _ ha
   | _=>exact l7 _
 ·cases z<;>exact l7 _
theorem ZQ{v:Value}(h:VP Z v):Sf Z P (λo=>∀t a fl,o=some (t,a,fl)->Z.D a.block) (ReflectliteValue.parts v):=by
 unfold ReflectliteValue.parts;refine Sf.bind (N4 hT hP h) λo ho=>?_;split
 ·exact Sf.bind (Ud _ _) λ_ _=>Sf.pure ho
 ·exact Sf.pure λ_ _ _ h=>by cases h
theorem cx{zero:Sem Value}{f:TypeId->Addr->Nat->Nat->Sem Value}(hz:Sf Z P (VP Z) zero)(hf:∀t a fl k,Z.D a.block->Sf Z P (VP Z) (f t a fl k)){args:Array Value}(h:AP Z args):Sf Z P (VP Z) (ReflectliteValue.method zero f args):=by
 obtain⟨l⟩:=args;rcases l with _|⟨x,_|⟨y,l⟩⟩
 ·exact l7 _
 ·refine Sf.bind (ZQ hT hP (h x (by simp))) λo ho=>?_
  cases o with
  | none=>exact hz
  | some o=>obtain⟨t,a,fl⟩:=o;exact hf _ _ _ _ (ho _ _ _ rfl)
 ·exact l7 _
theorem b0J{zero:Sem Value}{f:TypeId->Addr->Nat->Nat->Sem Value}(hz:Sf Z P (VP Z) zero)(hf:∀t a fl k,Z.D a.block->Sf Z P (VP Z) (f t a fl k)){args:Array Value}(h:AP Z args):Sf Z P (VP Z) (ReflectliteValue.methodAny zero f args):=by
 obtain⟨l⟩:=args;rcases l with _|⟨x,_|⟨y,l⟩⟩
 ·exact l7 _
 ·refine Sf.bind (N4 hT hP (h x (by simp))) λo ho=>?_
  cases o with
  | none=>exact hz
  | some o=>obtain⟨t,a,fl⟩:=o;exact hf _ _ _ _ (ho _ _ _ rfl)
 ·exact l7 _
theorem b9o(t:TypeId){a:Addr}(h:Z.D a.block)(fl k:Nat):Sf Z P (VP Z) (ReflectliteValue.isNil t a fl k):=by
 unfold ReflectliteValue.isNil;have rest:Sf Z P (VP Z) (do match <-loadVar t a with|.chan none|.nilFunc|.nilIface|.map none|.pointer none|.slice none _ _=>pure (.bool true)|_=>pure (.bool false)):=by
  refine Sf.bind (EK t h) λv _=>?_;split<;>exact Sf.pure (.bool _)
 dsimp only;split
 ·exact Sf.bind (R:=λ_=>True) (KH hT hP _ _) λ_ _=>rest
 ·exact rest
theorem c2Q(t:TypeId){a:Addr}(h:Z.D a.block)(fl k:Nat):Sf Z P (VP Z) (ReflectliteValue.elem t a fl k):=by
 unfold ReflectliteValue.elem;have rest:Sf Z P (VP Z) (do match k,<-loadVar t a,<-elem? t with|20,i,_=>ReflectliteValue.unpack i|22,.pointer none,_=>pure ReflectliteValue.zeroV|22,.pointer (some p),some e=>ReflectliteValue.mk e p ReflectliteValue.flagAddr|_,_,_=>ReflectliteValue.valueError "reflectlite.Value.Elem" k):=by
  refine Sf.bind (EK t h) λv hv=>Sf.bind (Bt t) λe _=>?_;split
  ·exact IT hT hP hv
  ·exact Sf.pure Br
  ·cases hv with
   | ptr a h=>exact sA hT hP _ h _
  ·exact KH hT hP _ _
 dsimp only;split
 ·exact Sf.bind (R:=λ_=>True) (KH hT hP _ _) λ_ _=>rest
 ·exact rest
theorem GE{args:Array Value}(h:AP Z args):Sf Z P (VP Z) (ReflectliteValue.set args):=by
 obtain⟨l⟩:=args;rcases l with _|⟨x,_|⟨y,_|⟨z,l⟩⟩⟩
 ·exact l7 _
 ·exact l7 _
 ·unfold ReflectliteValue.set;dsimp only;refine Sf.bind (ZQ hT hP (h x (by simp))) λo ho=>Sf.bind (ZQ hT hP (h y (by simp))) λo' ho'=>?_
  cases o with
  | none=>exact I4 _ trivial
  | some o=>
   cases o' with
   | none=>exact I4 _ trivial
   | some o'=>
    obtain⟨dst,a,fl⟩:=o;obtain⟨src,b,pQ⟩:=o';have ha:=ho _ _ _ rfl;have hb:=ho' _ _ _ rfl;have store:∀v,VP Z v->Sf Z P (VP Z) (do storeVar dst a v;pure (.tuple #[])):=λv hv=>Sf.bind (P3 dst ha hv) λ_ _=>Sf.pure (.tuple _ AP.nil);have rest:Sf Z P (VP Z) (do
     let val <-loadVar src b
     if <-directlyAssignable dst src then storeVar dst a val
     else if <-implements dst src then
      if (<-kind src)==20 then
       match val with
       | .nilIface=>unsupported (.noEntry "extern/reflectlite: a nil value of one interface type handed on as a value of another")
       | _=>storeVar dst a val
      else storeVar dst a (.iface src val)
     else panicString ("reflectlite.Set: value of type "++(<-spelt src)++ " is not assignable to type "++(<-spelt dst))
     pure (.tuple #[])):=by
     refine Sf.bind (EK src hb) λval hval=>Sf.bind (N6 dst src) λd _=>?_;split
     ·exact store _ hval
     ·refine Sf.bind (Vj dst src) λi _=>?_;split
      ·refine Sf.bind (TL src) λk _=>?_;split
       ·split
        ·exact Sf.bind (R:=λ_=>True) (I4 _ trivial) λ_ _=>Sf.pure (.tuple _ AP.nil)
        ·exact store _ hval
       ·exact store _ (.iface _ _ (hT _) hval)
      ·exact Sf.bind (ZJ _) λ_ _=>Sf.bind (ZJ _) λ_ _=>Sf.bind (R:=λ_=>True) (Vb hT hP _) λ_ _=>Sf.pure (.tuple _ AP.nil)
    dsimp only;split
    ·exact Sf.bind (R:=λ_=>True) (I4 _ trivial) λ_ _=>rest
    ·exact rest
 ·exact l7 _
omit hT hP in
theorem I'{args:Array Value}(h:AP Z args):Sf Z P (VP Z) (AbiNoEscape.same args):=by
 obtain⟨l⟩:=args;rcases l with _|⟨x,_|⟨y,l⟩⟩
 ·exact l7 _
 ·exact Sf.pure (h x (by simp))
 ·exact l7 _
omit hT hP in
theorem b0K{a:Addr}(h:Z.D a.block)(n:Nat):∀acc,Sf Z P (λ_=>True) (Bytes.loadBytes a n acc):=by
 induction n generalizing a with
 | zero=>intro acc;exact Sf.pure trivial
 | succ n ih=>
  intro acc;unfold Bytes.loadBytes;refine Sf.bind (Qi h) λv _=>?_;split
  ·exact ih (by unfold Addr.add;split<;>exact h) _
  ·exact l7 _
omit hT hP in
theorem cw{v:Value}(h:VP Z v):Sf Z P (λ_=>True) (Bytes.bytesOf v):=by
 cases h with
 | string s=>exact Sf.pure trivial
 | gy n c=>exact Sf.pure trivial
 | slice a n c ha=>exact b0K ha _ _
 | _=>exact l7 _
omit hT hP in
theorem b9p(v:Value):Sf Z P (λ_=>True) (Bytes.asByte v):=by
 unfold Bytes.asByte;split
 ·exact Sf.pure trivial
 ·exact l7 _
omit hT hP in
theorem b23{args:Array Value}(h:AP Z args):Sf Z P (VP Z) (BytealgIndexByte.indexByte args):=by
 obtain⟨l⟩:=args;rcases l with _|⟨x,_|⟨y,_|⟨z,l⟩⟩⟩
 ·exact l7 _
 ·exact l7 _
 ·unfold BytealgIndexByte.indexByte;refine Sf.bind (cw (h x (by simp))) λb _=>Sf.bind (b9p _) λc _=>?_;split<;>exact Sf.pure (.int _ _)
 ·exact l7 _
omit hT in
theorem b0L(hG:∀b,b<P.globals.size->Z.D b)(n:String):Sf Z P (λa=>Z.D a.block) (globalAddr n):=by
 unfold globalAddr;refine Sf.bind F9 ?_;rintro p rfl;split
 ·rename_i g hg;exact Sf.pure (hG _ (Array.findIdx?_eq_some_iff_getElem.1 hg).1)
 ·exact l7 _
omit hT in
theorem c2R(hG:∀b,b<P.globals.size->Z.D b){args:Array Value}(h:AP Z args):Sf Z P (VP Z) (BytealgIndex.index args):=by
 obtain⟨l⟩:=args;rcases l with _|⟨x,_|⟨y,_|⟨z,l⟩⟩⟩
 ·exact l7 _
 ·exact l7 _
 ·unfold BytealgIndex.index BytealgIndex.maxLen;refine Sf.bind (cw (h x (by simp))) λb _=>Sf.bind (cw (h y (by simp))) λc _=>Sf.bind (R:=λ_=>True) (Sf.bind (b0L hP hG _) λa ha=>Sf.bind (Qi ha) λv _=>EF _) λn _=>?_;have last:Sf Z P (VP Z) (match (List.range (b.size+1 - c.size)).find? λi=>b.extract i (i+c.size)==c with|some i=>pure (goInt i)|none=>pure (goInt (-1))):=by
   split<;>exact Sf.pure (.int _ _)
  have rest:Sf Z P (VP Z) (do
   if b.size ≥ 2^32 - 15 then unsupported (.noEntry "extern/internal/bytealg.Index: a haystack of 2^32 - 15 bytes or more")
   match (List.range (b.size+1 - c.size)).find? λi=>b.extract i (i+c.size)==c with|some i=>pure (goInt i)|none=>pure (goInt (-1))):=by
   dsimp only;split
   ·exact Sf.bind (R:=λ_=>True) (I4 _ trivial) λ_ _=>last
   ·exact last
  exact P5 _ (Sf.bind (R:=λ_=>True) (I4 _ trivial) λ_ _=>rest) rest
 ·exact l7 _
omit hT hP in
theorem IS:∀(n t:Nat){acc:Array Value},AP Z acc->AP Z (BytealgMakeNoZero.digits n t acc)
 | 0,_,_,h=>h
 | n+1,t,_,h=>IS n (t/256) (h.push (.int _ _))
omit hT in
theorem b0M(ps rs:Array TypeId){args:Array Value}(_:AP Z args):Sf Z P (VP Z) (BytealgMakeNoZero.makeNoZero ps rs args):=by
 obtain⟨l⟩:=args;rcases l with _|⟨x,_|⟨y,l⟩⟩
 ·exact l7 _
 ·cases x with
  | int k n=>
   cases k<;>first|exact l7 _|skip
   show Sf Z P (VP Z) (BytealgMakeNoZero.makeNoZero ps rs #[.int .i64 n]);unfold BytealgMakeNoZero.makeNoZero;have rest:∀elem,Sf Z P (VP Z) (do
    let cap <-choose (.appendCap n.toNat 0 elem)
    askRoom cap
    let bytes <-choose (.extern "internal/bytealg.MakeNoZero.bytes" 0)
    let a <-newRow elem (BytealgMakeNoZero.digits cap bytes #[])
    pure (.slice (some a) n.toNat cap)):=λelem=>
    Sf.bind (O1 _) λc _=>Sf.bind (UF _) λ_ _=>Sf.bind (O1 _) λb _=>Sf.bind (zG elem (IS _ _ AP.nil)) λa ha=>Sf.pure (.slice _ _ _ ha)
   dsimp only;split
   ·refine Sf.bind (o6 _) λd _=>?_;split
    ·split
     ·exact Sf.bind (R:=λ_=>True) (y7 hP _) λ_ _=>rest _
     ·exact rest _
    ·exact l7 _
   ·exact l7 _
  | _=>exact l7 _
 ·cases x with
  | int k n=>cases k<;>exact l7 _
  | _=>exact l7 _
omit hT in
theorem b9q(t:Extern.Atomic.T){args:Array Value}(h:AP Z args):Sf Z P (VP Z) (Atomic.loadT t args):=by
 obtain⟨l⟩:=args;rcases l with _|⟨x,_|⟨y,l⟩⟩
 ·exact l7 _
 ·unfold Atomic.loadT Atomic.read;refine Sf.bind (Ku hP (h x (by simp))) λa ha=>Sf.bind (c2r ha) λv hv=>?_;split<;>first|exact Sf.pure hv|exact I4 _ trivial|skip
  split
  ·exact Sf.pure hv
  ·exact I4 _ trivial
 ·exact l7 _
end
end
end Go.Zn
