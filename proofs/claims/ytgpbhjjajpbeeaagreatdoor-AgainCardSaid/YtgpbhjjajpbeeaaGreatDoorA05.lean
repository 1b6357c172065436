/- A part of what the last file proves. -/
import Derived.Test.YtgpbhjjajpbeeaaGreatDoorA04
import Derived.Conc.Listed
set_option linter.all false
namespace Go.Zn
variable{c s:dU}{l:iZ}{v:aX}{a:Addr}{k κ:List Item}{w:aB}{α:Type}
open Go.Extern.Rtype
section
variable{Z:Zone}{P:Program}
def eB(X:Tmp->Prop)(o:Op):Prop:=∀x∈o.operands,∀t,x=.tmp t->X t
def iW(X:Tmp->Prop):Code->Prop
 | .seq a b=>iW X a/\iW X b
 | .cond _ a b=>iW X a/\iW X b
 | .block _ b=>iW X b
 | .loop b=>iW X b
 | .scope b=>iW X b
 | .region _ e _=>∀o∈e,eB X o.op
 | .rangeFunc _ _ c d=>(∀t,X t)/\iW X c/\iW X d
 | _=>True
def Full:Tmp->Prop:=λ_=>True
def c5J(o:Op):eB Full o:=λ_ _ _ _=>trivial
def fV(c:Code):iW Full c:=by
 induction c with
 | region=>exactλo _=>c5J _
 | rangeFunc f _ a b e d=>exact⟨λ_=>trivial,e,d⟩
 | _=>trivial
inductive qX(Z:Zone)(X:Tmp->Prop):Item->Prop
 | code (c:Code) (h:gV Z c) (hu:iW X c):qX Z X (.code c)
 | inBlock (id:Nat):qX Z X (.inBlock id)
 | inLoop (c:Code) (h:gV Z c) (hu:iW X c):qX Z X (.inLoop c)
 | inScope (c:Code) (h:gV Z c) (hu:iW X c):qX Z X (.inScope c)
 | inRegion (ops:Array Oper) (l:List Nat) (h:∀o∈ops,MV Z o.op) (hu:∀o∈ops,eB X o.op):qX Z X (.inRegion ops l)
 | inRangeFunc (l:Nat) (h:Z.D l):qX Z X (.inRangeFunc l)
 | endRangeFunc (l:Nat) (h:Z.D l):qX Z X (.endRangeFunc l)
 | beginRound:qX Z X .beginRound
structure Ik(Z:Zone)(X:Tmp->Prop)(fr:Frame):Prop where
 tmps:∀t,X t->VP Z (fr.tmps.getD t undef)
 todo:∀x∈fr.todo,qX Z X x
 defers:jY Z fr.defers
 mode:fr.mode=.run\/fr.mode=.returning
 kind:fr.kind=.normal
 round:∀l,fr.roundOf=some l->Z.D l
def b8G{X:Tmp->Prop}{c:Code}(h:Wh c):qX Z X (.code c):=by cases c<;>first|trivial|exact .code _ trivial trivial
def lr(h:∀t,Full t->VP Z (c.getD t undef)):AP Z c:=λx d=>by obtain⟨i,b,rfl⟩:=gG.1 d;have:=h i trivial;simp_all
def xx(l:iZ)(X:Tmp->Prop):Tmp->Prop:=match l with
 | []=>X
 | _::_=>Full
def DU(Z:Zone)(X:Tmp->Prop)(fr:Frame)(l:iZ):Prop:=Ik Z (xx l X) fr/\(l=[]->fr.roundOf=none)
def IX(Z:Zone)(X:Tmp->Prop):List Frame->Prop
 | []=>True
 | x::l=>(DU Z X x l/\x.mode=.run/\x.todo≠[])/\IX Z X l
def kk(l:iZ)(κ:List Item):List Item:=match l with
 | []=>κ
 | _::_=>[]
def ext(fr:Frame)(k:List Item):Frame:={fr with todo:=fr.todo++k}
def low:List Frame->List Item->List Frame->List Frame
 | [],_,a=>a
 | x::l,κ,a=>ext x (kk l κ)::low l κ a
def Gr(fr:Frame)(l:iZ)(κ:List Item)(cs:iZ):Goroutine:={frame:=ext fr (kk l κ),callers:=low l κ cs,status:=.running,dying:=none}
def K0:List Item:=[.code (.refuse "")]
def Stops:GStep->Prop
 | .ended _ _ _=>True
 | _=>False
section
variable{Z Z':Zone}(hL:Le Z Z'){X:Tmp->Prop}
include hL
theorem qX.mono{x:Item}(h:qX Z X x):qX Z' X x:=by
 cases h with
 | code c h a=>exact .code c (h.mono hL) a
 | inBlock=>exact .inBlock _
 | inLoop c h a=>exact .inLoop c (h.mono hL) a
 | inScope c h a=>exact .inScope c (h.mono hL) a
 | inRegion b l h a=>exact .inRegion b l (λo d=>(h o d).mono hL) a
 | inRangeFunc l h=>exact .inRangeFunc l (hL.D _ h)
 | endRangeFunc l h=>exact .endRangeFunc l (hL.D _ h)
 | beginRound=>exact .beginRound
theorem jY.mono{ds:List Deferred}(h:jY Z ds):jY Z' ds:=λd a=>let ⟨r,e,b⟩:=h d a;⟨r,e,hL.D _ b⟩
theorem Ik.mono{fr:Frame}(h:Ik Z X fr):Ik Z' X fr:=⟨λt c=>(h.tmps t c).mono hL,λx b=>(h.todo x b).mono hL,.mono hL h.defers,h.mode,h.kind,λl a=>hL.D _ (h.round l a)⟩
theorem DU.mono{fr:Frame}(h:DU Z X fr l):DU Z' X fr l:=⟨h.1.mono hL,h.2⟩
theorem IX.mono:∀{l:iZ},IX Z X l->IX Z' X l
 | [],_=>trivial
 | _::_,h=>⟨⟨h.1.1.mono hL,h.1.2⟩,.mono h.2⟩
end
structure Inv(Z:Zone)(Sh:Nat->Prop)(X:Tmp->Prop)(fr:Frame)(l:List Frame)(w:World):Prop where
 fr:DU (Zf Z Sh w) X fr l
 low:IX (Zf Z Sh w) X l
 W:kH Z Sh w
inductive St(Z:Zone)(Sh:Nat->Prop)(X:Tmp->Prop)(l:List Frame)(w:World)(s:List Item->List Frame->World->GStep):Prop
 | go (fr':Frame) (l':List Frame) (w':World) (es:Array Event) (k:Nat) (a:Asks w w' k) (h:∀κ cs τ p,Agree w k τ p->s κ cs (tp w τ p)=.go (Gr fr' l' κ cs) (tp w' τ (p+k)) es)
  (hI:Inv Z Sh X fr' l' w')(hs:w.heap.size<=w')(he:∀e∈es,ku (Zf Z Sh w') w' e):St Z Sh X l w s
 | bad (fr':Frame) (chain:List PanicEntry) (w':World) (es:Array Event) (k:Nat) (a:Asks w w' k) (h:∀κ cs τ p,Agree w k τ p->s κ cs (tp w τ p)=.go (Gr fr' l κ cs) (tp w' τ (p+k)) es)
  (hm:fr'.mode=.panicking chain)(hd:jY (Zf Z Sh w') fr'.defers)(hW:kH Z Sh w')(hs:w.heap.size<=w'):St Z Sh X l w s
 | stop (k:Nat) (h:∀cs τ p,Agree w k τ p->Stops (s K0 cs (tp w τ p))):St Z Sh X l w s
def Jj(fr:Frame):ext fr []=fr:=by unfold ext;simp
def Hf(fr:Frame)(k:List Item):(ext fr k).eval=fr.eval:=by rfl
def L8{fr:Frame}(h:fr.todo≠[])(k:List Item)(v:aX):(ext fr k).finish v=ext (fr.finish v) k:=by
 let⟨m,e,b,c,f,g,a⟩:=fr;cases b with
 | nil=>trivial
 | cons x=>
  cases x with
  | inRegion j l=>
   cases l with
   | _=>rfl
  | _=>rfl
def Ik.finish{X:Tmp->Prop}{fr:Frame}(h:Ik Z X fr)(D:VP Z v):Ik Z X (fr.finish v)/\(fr.finish v).mode=fr.mode/\(fr.finish v).roundOf=fr.roundOf:=by
 let⟨E,m,n,o,s,q,j⟩:=fr;let⟨b,g,d,c,e,f⟩:=h;unfold Frame.finish
 cases n with
 | nil=>exact⟨⟨b,g,d,c,e,f⟩,rfl,rfl⟩
 | cons x=>
  cases (g x aZ) with
  | inRegion C l B A=>
   cases l with
   | nil=>exact⟨⟨b,g,d,c,e,f⟩,rfl,rfl⟩
   | cons=>
    dsimp;refine⟨⟨?_,?_,d,c,e,f⟩,rfl,rfl⟩
    dsimp;split
    intro t w;rw[aV,gJ];split
    split
    exact D
    exact .tuple _ kU
    simp_all
    trivial
    intro y a;obtain rfl|a:=bI.1 a
    exact .inRegion _ _ B A
    grind
  | inRangeFunc l z=>
   refine⟨⟨b,?_,d,c,e,f⟩,rfl,rfl⟩;intro y a;obtain rfl|a:=bI.1 a
   exact .endRangeFunc _ z
   grind
  | beginRound=>exact⟨⟨b,λy a=>g y (by simp[a]),d,c,e,f⟩,rfl,rfl⟩
  | _=>exact⟨⟨b,g,d,c,e,f⟩,rfl,rfl⟩
def DU.finish{X:Tmp->Prop}{fr:Frame}(h:DU Z X fr l)(c:VP Z v):DU Z X (fr.finish v) l:=by obtain⟨a,-,b⟩:=h.1.finish c;exact⟨a,λe=>b.trans (h.2 e)⟩
def jI:VP Z undef:=.tuple _ kU
def c2a(i:t_ Z P){X:Tmp->Prop}{f:FuncId}(j:Z.F f){args:dU}(h:AP Z args)(l:iZ)(x:Frame):DU Z X (Frame.enter P f args .normal) (x::l):=by
 refine⟨⟨λt _=>(h.append (AP.replicate _ jI)).getD _ jI,λx e=>?_,by intro d k;trivial,.inl rfl,rfl,by simp[Frame.enter]⟩,aZ⟩;simp[Frame.enter,dB] at e;subst e;refine .code _ ?_ (fV _)
 cases a:P.funcs[f]? with
 | none=>trivial
 | some g=>
  cases b:g.body with
  | none=>simp[fK,b];trivial
  | some c=>simp[fK,b];exact i.code f g c j a b
def c2b{X:Tmp->Prop}{r:Nat}(k:Z.D r)(f:FuncId)(i:AP Z c){a b:Code}(m:gV Z a)(h:gV Z b)(l:iZ)(x:Frame):DU Z X (Frame.round r f c a b .normal) (x::l):=by
 refine⟨⟨λt _=>i.getD _ jI,λx g=>?_,by intro d j;trivial,.inl rfl,rfl,by intro n e;simp[Frame.round] at e;grind⟩,aZ⟩;simp[Frame.round,bI,jG,or_false] at g;obtain rfl|rfl|rfl:=g
 exact .code _ m (fV _)
 exact .beginRound
 exact .code _ h (fV _)
def c7k{X:Tmp->Prop}{fr:Frame}(h:Ik Z X fr)(i:fr.todo≠[]){d:Deferred}{b:Bool}{r:String}(e:(ext fr κ).todo=.call d b r s::k):False:=by
 let⟨o,m,a,g,l,j,f⟩:=fr
 cases a with
 | nil=>trivial
 | cons x=>injection e with n;have:=h.todo x aZ;rw[n] at this;trivial
def Ji{B:Nat}{fn:FuncId}{es:Array Event}(h:∀e∈es,ku Z B e):∀e∈seen P fn es++#[],ku Z B e:=λe a=>h e (Go.Conc.mem_seen a)
def raise_mode(fr:Frame)(v:List PanicEntry):∃c,(fr.raise v).mode=.panicking c/\(fr.raise v).defers=fr.defers:=by unfold Frame.raise;split<;>exact⟨_,rfl,rfl⟩
def MJ(fr:Frame)(κ:List Item)(v:List PanicEntry):(ext fr κ).raise v=ext (fr.raise v) κ:=by let⟨g,d,f,c,a,e,b⟩:=fr;cases a<;>rfl
section
variable{Sh:Nat->Prop}{X:Tmp->Prop}
def Inv.same{fr fr':Frame}(h:Inv Z Sh X fr l w)(a:DU (Zf Z Sh w) X fr' l):Inv Z Sh X fr' l w:=⟨a,h.low,h.W⟩
def tW(O:∀C,Le Z C->t_ C P){fr:Frame}(B:Inv Z Sh X fr l w)(H:fr.mode=.run)(j:fr.todo≠[]){s:Sem Next}(S:∀C,Le (Zf Z Sh w) C->Sf C P (uI C) s):
 St Z Sh X l w (λκ cs w=>stepG.apply P true (ext fr (kk l κ)) (low l κ cs) none s w):=by
 have z:∀κ,((ext fr κ).kind==CallKind.early)=false:=λκ=>by show(fr.kind==CallKind.early)=false;rw[B.fr.1.kind];rfl
 have m:∀κ q,seen P (ext fr κ).fn q=seen P fr.fn q:=λ_ _=>rfl;obtain⟨a,u,q,k,A,t,L,g,d,n⟩|⟨h,u,q,k,A,t,D,d,g⟩:=both S B.W
 have E:=B.fr.mono (jE (Z:=Z) d);have o:=B.low.mono (jE (Z:=Z) d);cases L with
 | value v J=>
  refine .go (fr.finish v) l u (seen P fr.fn q++#[]) k A (λκ cs τ p i=>?_) ⟨E.finish J,o,g⟩ d (Ji n);unfold stepG.apply;simp only[if_true,z,m,t τ p i,L8 j]
  rfl
 | skip=>
  refine .go _ l u (seen P fr.fn q++#[]) k A (λκ cs τ p i=>?_) ⟨E.finish jI,o,g⟩ d (Ji n);unfold stepG.apply;simp only[if_true,z,m,t τ p i,L8 j]
  rfl
 | enter f y Q F=>
  refine .go _ (fr::l) u (seen P fr.fn q++#[]) k A (λκ cs τ p i=>?_) ⟨c2a (O _ g.le) Q F l fr,⟨⟨E,H,j⟩,o⟩,g⟩ d (Ji n);unfold stepG.apply;simp only[if_true,z,m,t τ p i];dsimp[GStep.after];split
  ·rename_i e;exact(c7k B.fr.1 j e).elim
  rfl
 | round I f r a b T M F G=>refine .go _ (fr::l) u (seen P fr.fn q++#[]) k A (λκ cs τ p i=>?_) ⟨c2b T f M F G l fr,⟨⟨E,H,j⟩,o⟩,g⟩ d (Ji n);unfold stepG.apply;simp only[if_true,z,m,t τ p i];rfl
 cases h with
 | panic v=>
  obtain⟨c,N,R⟩:=raise_mode fr _;refine .bad _ c u (seen P fr.fn q++#[]) k A (λκ cs τ p i=>?_) N (by rw[R];exact jY.mono (jE d) B.fr.1.defers) g d;unfold stepG.apply;simp only[z,m,t τ p i,MJ]
  rfl
 | stuck x=>
  refine .stop k λcs τ p i=>?_;unfold stepG.apply;simp only[z,t τ p i]
  trivial
 | unsupported u=>
  refine .stop k λcs τ p i=>?_;unfold stepG.apply;simp only[z,t τ p i]
  cases u<;>first|rfl|trivial
 | _=>trivial
def QA{id:Nat}:∀{k k':List Item},exitTo id k=some k'->∀x∈k',x∈k:=by
 intro k
 induction k with
 | nil=>intro k' h;cases h
 | cons y k b=>
  intro k' h x a
  cases y with
  | inBlock=>
   unfold exitTo at h;split at h
   grind
   grind
  | _=>exact eX _ (b kT x a)
def MG{id:Nat}(κ:List Item):∀{k k':List Item},exitTo id k=some k'->exitTo id (k++κ)=some (k'++κ):=by
 intro k
 induction k with
 | nil=>intro k' h;cases h
 | cons y k a=>
  intro k' h
  cases y with
  | inBlock=>
   unfold exitTo at h;rw[List.cons_append];unfold exitTo;split
   grind
   grind
  | _=>exact a h
def cG{id:Nat}:∀{k:List Item},exitTo id k=none->exitTo id (k++K0)=none:=by
 intro k
 induction k with
 | nil=>intro _;rfl
 | cons y k a=>
  intro h
  cases y with
  | inBlock=>
   unfold exitTo at h;unfold exitTo;split at h
   cases h
   grind
  | _=>exact a h
def b4M:∀{c:Code}{l:Nat}{r:Code},gV Z c->findLabel c l=some r->gV Z r:=by
 intro c
 induction c with
 | seq a b f d=>
  intro l r h e;unfold findLabel at e;split at e
  rename_i g i;injection e with e;subst e;exact⟨f h.1 i,h.2⟩
  exact d h.2 e
 | label=>
  intro l r h e;unfold findLabel at e;split at e
  injection e with e;subst e;trivial
  trivial
 | _=>intro l r h e;cases e
def b6j{X:Tmp->Prop}:∀{c:Code}{l:Nat}{r:Code},iW X c->findLabel c l=some r->iW X r:=by
 intro c
 induction c with
 | seq a b f d=>
  intro l r h e;unfold findLabel at e;split at e
  rename_i g i;injection e with e;subst e;exact⟨f h.1 i,h.2⟩
  exact d h.2 e
 | label=>
  intro l r h e;unfold findLabel at e;split at e
  injection e with e;subst e;trivial
  trivial
 | _=>intro l r h e;cases e
def c2c{X:Tmp->Prop}{l:Nat}:∀{k k':List Item},(∀x∈k,qX Z X x)->gotoIn l k=some k'->∀x∈k',qX Z X x:=by
 intro k
 induction k with
 | nil=>intro k' _ h;cases h
 | cons y k f=>
  intro k' g h;cases y with
  | inScope a=>
   have d:gV Z a/\iW X a:=by have:=g _ gQ;cases this;trivial
   unfold gotoIn at h;split at h
   rename_i j e;injection h with h;subst h;intro x c;obtain rfl|c:=bI.1 c
   exact .code _ (b4M d.1 e) (b6j d.2 e)
   obtain rfl|c:=bI.1 c
   grind
   grind
   grind
  | _=>exact f (λx c=>g x fU) kT
def cB{l:Nat}(κ:List Item):∀{k k':List Item},gotoIn l k=some k'->gotoIn l (k++κ)=some (k'++κ):=by
 intro k
 induction k with
 | nil=>intro k' h;cases h
 | cons y k b=>
  intro k' h
  cases y with
  | inScope=>
   unfold gotoIn at h;rw[List.cons_append];unfold gotoIn;split at h
   injection h with h;subst h;rfl
   grind
  | _=>exact b h
def cF{l:Nat}:∀{k:List Item},gotoIn l k=none->gotoIn l (k++K0)=none:=by
 intro k
 induction k with
 | nil=>intro _;rfl
 | cons y k b=>
  intro h
  cases y with
  | inScope=>unfold gotoIn at h;unfold gotoIn;grind
  | _=>exact b h
def pK{Z:Zone}{X:Tmp->Prop}{fr:Frame}(h:Ik Z X fr)(x:Operand)(a:LC Z x)(b:∀t,x=.tmp t->X t):VP Z (fr.eval x):=by
 cases x with
 | tmp t=>exact h.tmps t (b t rfl)
 | const=>exact a
 | global=>exact .ptr _ a
 | func f=>exact .func _ _ _ (.func f a) kU kU
def Aa{fr:Frame}(a:Inv Z Sh X fr l w)(b:∀x∈k,qX (Zf Z Sh w) (xx l X) x){s:List Item->List Frame->World->GStep}
 (h:∀κ cs w,s κ cs w=.go (Gr {fr with todo:=k} l κ cs) w #[]):St Z Sh X l w s:=
 .go {fr with todo:=k} l w #[] 0 ⟨rfl,rfl⟩ fU (a.same ⟨⟨a.fr.1.tmps,b,a.fr.1.defers,a.fr.1.mode,a.fr.1.kind,a.fr.1.round⟩,a.fr.2⟩) (ak _) aZ
def sD(P:Program){fr c:Frame}(b:fr.kind=.normal)(a:c.todo≠[])(v:aX)(es:Array Event)(κ:List Item)(cs:iZ)(w:aB):
 GStep.after es (doReturn P true fr (low (c::l) κ cs) none v w)=.go (Gr (c.finish v) l κ cs) w (es++#[]):=by
 unfold doReturn;rw[b];show GStep.after _ (.go _ w)=_;rw[L8 a];rfl
def ZX{fr:Frame}(e:Inv Z Sh X fr l w)(j:Option Code)(B:∀c,j=some c->Wh c):
 St Z Sh X l w (λκ cs w=>match fr.roundOf with
  | none=>if (match j with|none=>true|some .ret=>true|_=>false)=true then .go {frame:={ext fr (kk l κ) with mode:=.returning},callers:=low l κ cs,status:=.running,dying:=none} w else .ended (.stuck "exit, goto: no such block or label" ((ext fr (kk l κ)).pos P)) w
  | some r=>let (r,es):=(Instr.endRound r j).runT P w #[]
   GStep.after (seen P fr.fn es) <| match r with
   | .ok v w=>doReturn P true (ext fr (kk l κ)) (low l κ cs) none v w
   | .halt _ w=>.ended (.stuck "range over a function: no such loop" ((ext fr (kk l κ)).pos P)) w):=by
 have d:=e.fr.1
 cases s:fr.roundOf with
 | none=>
  have a:St Z Sh X l w (λκ cs w=>.go {frame:={ext fr (kk l κ) with mode:=.returning},callers:=low l κ cs,status:=.running,dying:=none} w):=
   .go {fr with mode:=.returning} l w #[] 0 ⟨rfl,rfl⟩ (λ_ _ _ _ _=>rfl) (e.same ⟨⟨d.tmps,d.todo,d.defers,.inr rfl,d.kind,d.round⟩,e.fr.2⟩) (ak _) aZ
  cases j with
  | none=>exact a
  | some c=>
   cases c with
   | ret=>exact a
   | _=>exact .stop 0 λ_ _ _ _=>trivial
 | some r=>
  rcases both (λE z=>b6e (P:=P) (z.D _ (d.round r s)) j B) e.W with⟨v,u,es,k,q,m,t,f,b,o⟩|⟨h,D,es,k,q,m,x,b,f⟩
  ·cases l with
   | nil=>exact absurd (e.fr.2 rfl) (by simp[s])
   | cons c l=>obtain⟨⟨A,C,g⟩,y⟩:=e.low.mono (jE (Z:=Z) (Sh:=Sh) b);refine .go (c.finish v) l u (seen P fr.fn es++#[]) k q (λκ cs τ p n=>?_) ⟨A.finish t,y,f⟩ b (Ji o);dsimp only;rw[m τ p n];exact sD P (fr:=ext fr (kk (c::l) κ)) d.kind g v _ κ cs _
  ·refine .stop k λcs τ p n=>?_;dsimp only;rw[m τ p n];trivial
def c7l{n m:Nat}{e:Event}(h:ku (Zf Z Sh n) n e)(a:n<=m):ku (Zf Z Sh m) m e:=by
 unfold ku at *;split at h
 exact⟨h.1,⟨aF h.2.1.1 a,h.2.1.2⟩,aF h.2.2 a⟩
 exact⟨h.1,⟨aF h.2.1.1 a,h.2.1.2⟩,aF h.2.2 a⟩
 exact h
 exact h
 trivial
def St.congr{s s':List Item->List Frame->World->GStep}(h:∀κ cs w,s κ cs w=s' κ cs w)(k:St Z Sh X l w s'):St Z Sh X l w s:=by
 have:s=s':=fU
 grind
def c7m(hP:∀Q,Le Z Q->t_ Q P){fr:Frame}(z:Inv Z Sh X fr l w)(hm:fr.mode=.run)(hne:¬(l=[]/\fr.todo=[])):
 St Z Sh X l w (λκ cs w=>stepG.exec P true true (ext fr (kk l κ)) (low l κ cs) none w):=by
 obtain⟨A,q,todo,m,mode,s,g⟩:=fr;dsimp only at hm hne;subst hm;have R:=z.fr.1
 cases todo with
 | nil=>
  cases l with
  | nil=>exact absurd ⟨rfl,rfl⟩ hne
  | cons c l=>exact ZX z none aZ
 | cons x k=>
  have V:∀y∈k,qX (Zf Z Sh w) (xx l X) y:=λy L=>R.todo y (by simp[L]);have hx:=R.todo x aZ;have c1:∀{n:Nat}{a:Item},w<=n->qX (Zf Z Sh n) (xx l X) a->∀y∈a::k,qX (Zf Z Sh n) (xx l X) y:=λhn N y L=>by
   rcases bI.1 L with rfl|L
   ·exact N
   ·exact(V y L).mono (jE hn)
  have c2:∀{a b:Item},qX (Zf Z Sh w) (xx l X) a->qX (Zf Z Sh w) (xx l X) b->∀y∈a::b::k,qX (Zf Z Sh w) (xx l X) y:=λN hb y L=>by
   rcases bI.1 L with rfl|L
   ·exact N
   ·exact c1 (ak _) hb y L
  cases hx with
  | inLoop c h H=>exact Aa z (c2 (.code _ h H) (.inLoop _ h H)) λ_ _ _=>rfl
  | inRangeFunc J h=>exact .stop 0 λ_ _ _ _=>trivial
  | beginRound=>
   refine tW hP z rfl aZ (s:=do g.elim (stuck "beginRound: no round") Instr.beginRound;pure .skip) λQ F=>?_
   cases g with
   | none=>exact(trivial:jg (.stuck _))
   | some r=>exact YX (b2m (hP Q (z.W.le.trans F)).toPOK (F.D _ (R.round r rfl)))
  | endRangeFunc J h=>
   rcases both (λQ F=>b8D (P:=P) (hP Q (z.W.le.trans F)).toPOK (F.D _ h)) z.W with⟨j,u,es,Yz,N,hT,hj,O,B,S⟩|⟨x,u,es,Yz,N,hT,hok,B,O⟩
   ·have M:=z.fr.mono (jE (Z:=Z) (Sh:=Sh) B);refine .go ⟨A,q,(j.map Item.code).toList++k,m,.run,s,g⟩ l u (seen P A es++#[]) Yz N (λκ cs τ p G=>?_) ⟨⟨⟨M.1.tmps,λy L=>?_,M.1.defers,M.1.mode,M.1.kind,M.1.round⟩,M.2⟩,z.low.mono (jE B),O⟩ B (Ji S)
    ·unfold stepG.exec ext;dsimp only[List.cons_append];rw[hT τ p G];unfold Gr ext;rw[iM];rfl
    ·cases j with
     | none=>exact(V y (by simpa using L)).mono (jE B)
     | some c=>
      rcases bI.1 (L) with rfl|L
      exact b8G (hj c rfl)
      ·exact(V y L).mono (jE B)
   ·cases x with
    | panic v=>
     obtain⟨c,K,Y⟩:=raise_mode _ [{v,recovered:=false}];refine .bad _ c u (seen P A es++#[]) Yz N (λκ cs τ p G=>?_) K (by rw[Y];exact jY.mono (jE B) R.defers) O B;unfold stepG.exec ext;dsimp only[List.cons_append];rw[hT τ p G]
     rfl
    | _=>
     refine .stop Yz λcs τ p G=>?_;unfold stepG.exec ext;dsimp only[List.cons_append];rw[hT τ p G]
     trivial
  | inRegion C is h H=>
   cases is with
   | nil=>exact Aa z V λ_ _ _=>rfl
   | cons i E=>
    by_cases hw:((C[i]?).map (Region.wanted · (yielded C q))).getD false=true
    ·cases ho:C[i]? with
     | none=>rw[ho] at hw;cases hw
     | some o=>
      have hop:=h o (Array.mem_of_getElem? ho);refine St.congr (λκ cs w=>?_) (tW hP z rfl aZ λQ F=>rQ (hP Q (z.W.le.trans F)) (hop.mono F).1 λx hx=>pK (R.mono F) x ((hop.mono F).2 x hx) λt e=>(H o (Array.mem_of_getElem? ho)) x hx t e);have e3:=Hf ⟨A,q,.inRegion C (i::E)::k,m,.run,s,g⟩ (kk l κ);rw[<-e3];show stepG.exec P true true ⟨A,q,.inRegion C (i::E)::(k++kk l κ),m,.run,s,g⟩ (low l κ cs) none w=_;unfold stepG.exec;dsimp only;rw[if_pos hw];unfold stepG.oper;simp only[show(Frame.oper? ⟨A,q,.inRegion C (i::E)::(k++kk l κ),m,.run,s,g⟩)=some o from ho];split
      ·rename_i Y;rw[Y] at hop;exact hop.1.elim
      ·rfl
    ·have M:=z.fr.finish (jI);refine .go (Frame.finish _ undef) l w #[] 0 ⟨rfl,rfl⟩ (λκ cs τ p _=>?_) (z.same M) (ak _) aZ;unfold Gr;rw[<-L8 aZ];show stepG.exec P true true ⟨A,q,.inRegion C (i::E)::(k++kk l κ),m,.run,s,g⟩ (low l κ cs) none _=_;unfold stepG.exec;dsimp only;rw[if_neg hw]
     rfl
  | code c K H=>
   cases c with
   | seq a b=>exact Aa z (c2 (.code _ K.1 H.1) (.code _ K.2 H.2)) λ_ _ _=>rfl
   | cond c a b=>
    by_cases ht:∃t,Frame.eval ⟨A,q,.code (.cond c a b)::k,m,.run,s,g⟩ c=.bool t
    obtain⟨t,ht⟩:=ht;refine Aa z (k:=.code (if t then a else b)::k) (c1 (ak _) (.code _ ?_ ?_)) λκ cs w=>?_
    ·split
     ·exact K.1
     ·exact K.2
    ·split
     ·exact H.1
     ·exact H.2
    ·rw[<-Hf _ (kk l κ)] at ht;unfold stepG.exec ext;dsimp only[List.cons_append];dsimp only[ext,List.cons_append] at ht;rw[ht];rfl
    ·refine .stop 0 λcs τ p _=>?_;rw[<-Hf _ (kk l K0)] at ht;unfold stepG.exec ext;dsimp only[ext,List.cons_append] at ht⊢;split
     ·simp_all
     ·trivial
   | block id b=>exact Aa z (c2 (.code b K H) (.inBlock id)) λ_ _ _=>rfl
   | loop b=>exact Aa z (c2 (.code b K H) (.inLoop b K H)) λ_ _ _=>rfl
   | scope b=>exact Aa z (c2 (.code b K H) (.inScope b K H)) λ_ _ _=>rfl
   | ret=>exact ZX z (some .ret) (by rintro _ ⟨⟩;trivial)
   | refuse why=>exact .stop 0 λ_ _ _ _=>trivial
   | exit id=>
    cases e:exitTo id k with
    | none=>
     cases l with
     | nil=>
      refine .stop 0 λcs τ p _=>?_;have hr:g=none:=z.fr.2 rfl;subst hr;show Stops (stepG.exec P true true ⟨A,q,.code (.exit id)::(k++K0),m,.run,s,none⟩ _ none _);unfold stepG.exec;dsimp only;rw[cG e]
      trivial
     | cons c l=>refine St.congr (λκ cs w=>?_) (ZX (P:=P) z (some (.exit id)) (by rintro _ ⟨⟩;trivial));show stepG.exec P true true ⟨A,q,.code (.exit id)::(k++[]),m,.run,s,g⟩ _ none _=_;unfold stepG.exec;dsimp only;rw[dX,e];rfl
    | some k'=>
     refine Aa z (λy L=>V y (QA e y L)) λκ cs w=>?_;show stepG.exec P true true ⟨A,q,.code (.exit id)::(k++kk l κ),m,.run,s,g⟩ _ none _=_;unfold stepG.exec;dsimp only;rw[MG _ e]
     rfl
   | goto J=>
    cases e:gotoIn J k with
    | none=>
     cases l with
     | nil=>
      refine .stop 0 λcs τ p _=>?_;have hr:g=none:=z.fr.2 rfl;subst hr;show Stops (stepG.exec P true true ⟨A,q,.code (.goto J)::(k++K0),m,.run,s,none⟩ _ none _);unfold stepG.exec;dsimp only;rw[cF e]
      trivial
     | cons c l=>refine St.congr (λκ cs w=>?_) (ZX (P:=P) z (some (.goto J)) (by rintro _ ⟨⟩;trivial));show stepG.exec P true true ⟨A,q,.code (.goto J)::(k++[]),m,.run,s,g⟩ _ none _=_;unfold stepG.exec;dsimp only;rw[dX,e];rfl
    | some k'=>
     refine Aa z (c2c V e) λκ cs w=>?_;show stepG.exec P true true ⟨A,q,.code (.goto J)::(k++kk l κ),m,.run,s,g⟩ _ none _=_;unfold stepG.exec;dsimp only;rw[cB _ e]
     rfl
   | region id C draw=>
    cases draw with
    | false=>exact Aa z (c1 (ak _) (.inRegion C _ K H)) λ_ _ _=>rfl
    | true=>
     refine .go ⟨A,q,.inRegion C (Region.schedule (P.follows .mixedOrders) C ((Question.order A id).cut (w.tape w.drawn (.order A id))))::k,m,.run,s,g⟩ l {w with drawn:=w.drawn+1} #[] 1 ⟨rfl,rfl⟩ (λκ cs τ p G=>?_) ⟨⟨⟨R.tmps,c1 (ak _) (.inRegion C _ K H),R.defers,R.mode,R.kind,R.round⟩,z.fr.2⟩,z.low,z.W.obj,z.W.sh,z.W.base⟩ (ak _) aZ;have h0:=by simpa using G 0 aj (.order A id)
     show GStep.go _ _ _=_;rw[<-h0]
     rfl
   | rangeFunc f D I T=>
    rcases both (λQ F=>b4L (P:=P) (fn:=A) ((lr λt _=>R.tmps t (H.1 t)).mono F) D (K.2.1.mono F) (K.2.2.mono F) (λl e=>F.D _ (R.round l e))) z.W with⟨r,u,es,W,N,hT,⟨hr,hds⟩,O,B,S⟩|⟨x,w',es,W,N,hT,hok,B,O⟩
    obtain⟨J,mark⟩:=r;have M:=z.fr.mono (jE (Z:=Z) (Sh:=Sh) B);have hI':Inv Z Sh X ⟨A,q,.inRangeFunc J::k,mark++m,.run,s,g⟩ l u:=
     ⟨⟨⟨M.1.tmps,c1 B (.inRangeFunc _ hr),λd Y=>(aP.1 Y).elim (hds d) (M.1.defers d),M.1.mode,M.1.kind,M.1.round⟩,M.2⟩,z.low.mono (jE B),O⟩
    have e2:∀κ cs τ p,Agree w W τ p->stepG.exec P true true (ext ⟨A,q,.code (.rangeFunc f D I T)::k,m,.run,s,g⟩ (kk l κ)) (low l κ cs) none (tp w τ p)=GStep.after (seen P A es) (stepG.apply P true (ext ⟨A,q,.inRangeFunc J::k,mark++m,.run,s,g⟩ (kk l κ)) (low l κ cs) none (do let d <-resolve (Frame.eval ⟨A,q,.inRangeFunc J::k,mark++m,.run,s,g⟩) _ 0;invoke d.target d.args) _):=λκ cs τ p G=>by show stepG.exec P true true ⟨A,q,.code _::(k++kk l κ),m,.run,s,g⟩ _ none _=_;unfold stepG.exec;dsimp only;rw[hT τ p G];rfl
    cases (tW hP hI' rfl aZ (s:=do let d <-resolve _ {callee:=.value f,args:=#[.const (.func (.yield J) #[] #[])],argTypes:=#[]} 0;invoke d.target d.args) (λQ F=>by
     refine aA (CL (c:={callee:=.value f,args:=#[.const _],argTypes:=#[]}) (λx hx=>pK (hI'.fr.1.mono F) x ?_ λt _=>H.1 t) (trivial) _) λd Y=>v_ (hP Q (hI'.W.le.trans F)) Y;simp[Call.operands] at hx;obtain rfl|rfl:=hx
     ·exact K.1.mono ((jE B).trans F)
     ·exact .func _ _ _ (.yield _ (F.D _ hr)) kU kU)) with
    | go fr' l' w' es' k2 a2 h h1 h5 h6=>
     refine .go fr' l' w' (seen P A es++es') (W+k2) (N.trans a2) (λκ cs τ p G=>?_) h1 (ay B h5) ?_
     ·rw[e2 κ cs τ p G.left,h κ cs τ (p+W) (G.right N),jV];rfl
     intro e he;obtain he|he:=dW.1 he
     ·exact c7l (S e (Go.Conc.mem_seen he)) h5
     simp_all
    | bad fr' c w' es' k2 a2 h hm Y hW2 hs2=>
     refine .bad fr' c w' (seen P A es++es') (W+k2) (N.trans a2) (λκ cs τ p G=>?_) hm Y hW2 (ay B hs2)
     rw[e2 κ cs τ p G.left,h κ cs τ (p+W) (G.right N),jV];rfl
    | stop k2 h=>refine .stop (W+k2) λcs τ p G=>?_;have:=h cs τ (p+W) (G.right N);rw[e2 K0 cs τ p G.left];revert this;generalize stepG.apply P true _ _ _ _ _=x;intro this;cases x<;>first|trivial|assumption
    refine .stop W λcs τ p G=>?_;show Stops (stepG.exec P true true ⟨A,q,.code _::(k++kk l K0),m,.run,s,g⟩ _ none _);unfold stepG.exec;dsimp;rw[hT τ p G];trivial
   | _=>exact Aa z V λ_ _ _=>rfl
  | _=>exact Aa z V λ_ _ _=>rfl
def b8H{fn:Func}{b:dU}(e:POK Z P)(h:AP Z b):Sf Z P (VP Z) (results fn b):=by
 refine aA (lw (I:=VP Z) _ _ λr _=>?_) λf c=>aS ?_
 split
 exact aS (h.getD _ jI)
 exact aA (Qm e (h.getD _ jI)) λa d=>Jw _ d
 split
 grind
 exact .tuple _ c
def Me(x:Frame)(l:iZ)(κ:List Item)(cs:iZ):low (x::l) κ cs=ext x (kk l κ)::low l κ cs:=rfl
def c2d(N:∀A,Le Z A->t_ A P){fr:Frame}(e:Inv Z Sh X fr l w)(I:fr.mode=.returning)(C:¬(l=[]/\fr.defers=[])):
 St Z Sh X l w (λκ cs w=>unwind P true (ext fr (kk l κ)) (low l κ cs) none w):=by
 have s:=e.fr.1;have F:∀k,(ext fr k).mode=.returning:=λ_=>I;have z:∀k,(ext fr k).defers=fr.defers:=λ_=>rfl;have E:∀k,(ext fr k).fn=fr.fn:=λ_=>rfl;have J:∀k,(ext fr k).tmps=fr.tmps:=λ_=>rfl
 cases f:fr.defers with
 | cons d Q=>
  obtain⟨r,rfl,O⟩:=s.defers d (by rw[f];simp);obtain⟨c,u,y,o,t,n,rfl,b,a,g⟩|⟨x,M,y,o,t,n,G,a,b⟩:=both (λA B=>a4O (B.D _ O)) e.W
  have q:=e.fr.mono (jE a);refine .go {fr with defers:=Q} l u (seen P fr.fn y++#[]) o t (λκ cs τ p j=>?_) ⟨⟨⟨q.1.tmps,q.1.todo,λd h=>q.1.defers d iL,.inr I,q.1.kind,q.1.round⟩,q.2⟩,e.low.mono (jE a),b⟩ a (Ji g);unfold unwind;rw[z,f];dsimp;rw[n τ p j];rfl
  refine .stop o λcs τ p j=>?_;unfold unwind;rw[z,f];dsimp;rw[n τ p j]
  trivial
 | nil=>
  cases l with
  | nil=>simp_all
  | cons c l=>
   cases i:P.funcs[fr.fn]? with
   | none=>
    obtain⟨⟨H,-,m⟩,D⟩:=e.low;refine .go _ l w #[] 0 ⟨rfl,rfl⟩ (λκ cs τ p _=>?_) ⟨H.finish (s.tmps 0 trivial),D,e.W⟩ (ak _) aZ;unfold unwind;rw[z,f,F];dsimp;rw[E,i];dsimp;unfold doReturn;rw[show(ext fr _).kind=.normal from s.kind];rw[Me];dsimp;rw[L8 m]
    rfl
   | some=>
    obtain⟨v,u,y,o,t,n,K,b,a,g⟩|⟨x,M,y,o,t,n,G,a,b⟩:=both (λA B=>b8H (N A (e.W.le.trans B)).toPOK (AP.mono B (lr s.tmps))) e.W
    obtain⟨⟨H,-,m⟩,D⟩:=e.low.mono (jE a);refine .go _ l u (seen P fr.fn y++#[]) o t (λκ cs τ p j=>?_) ⟨H.finish K,D,b⟩ a (Ji g);unfold unwind;rw[z,f,F];dsimp;rw[E,i];dsimp;rw[J,n τ p j];exact sD P s.kind m v _ κ cs _
    refine .stop o λcs τ p j=>?_;unfold unwind;rw[z,f,F];rw[E,i];dsimp;rw[J,n τ p j];cases x<;>trivial
def Stop(fr:Frame)(l:iZ):Prop:=l=[]/\((fr.mode=.run/\fr.todo=[])\/(fr.mode=.returning/\fr.defers=[]))
def c7n(d:∀e,Le Z e->t_ e P){fr:Frame}(c:Inv Z Sh X fr l w)(b:¬Stop fr l):
 St Z Sh X l w (λκ cs w=>stepG P true (Gr fr l κ cs) w):=by
 obtain a|a:=c.fr.1.mode
 refine St.congr (λκ cs w=>?_) (c7m d c a λh=>b ⟨h.1,.inl ⟨a,h.2⟩⟩);unfold stepG Gr;simp;rw[show(ext _ _).mode=.run from a]
 refine .congr (λκ cs w=>?_) (c2d d c a λh=>b ⟨h.1,.inr ⟨a,h.2⟩⟩);unfold stepG Gr;simp;rw[show(ext _ _).mode=.returning from a]
end
end
section
variable{Z:Zone}{P:Program}
def aL(a:String)(t:bT):Sf Z P (λ_=>True) (noPack a t):=by
 refine .bind G7 λp _=>?_;split
 exact J9 _ trivial
 trivial
def b2p(a:String)(t:bT):Sf Z P (λ_=>True) (noPackHeld a t):=by
 refine .bind G7 λp _=>.bind G7 λp _=>?_;split
 exact J9 _ trivial
 trivial
def b1o(a:String)(t:bT):Sf Z P (λ_=>True) (noPackNamed a t):=by
 refine aA G7 λp _=>.bind G7 λp _=>?_;split
 exact J9 _ trivial
 trivial
def XE(a:String)(t:bT):Sf Z P (λ_=>True) (noPackMethods a t):=by
 refine .bind G7 λp _=>.bind G7 λp _=>?_;split
 exact J9 _ trivial
 trivial
def tU(t:bT):Sf Z P (λ_=>True) (spelt t):=.bind (b1o _ _) λ_ _=>cg t
def Qe(t:bT):Sf Z P (λ_=>True) (under t):=by
 refine aA (I9 t) λi _=>?_;split
 exact aA (I9 _) λ_ _=>.pure trivial
 trivial
def ZE(t:bT):Sf Z P (λ_=>True) (kind t):=by refine aA (Qe t) λx _=>?_;dsimp;split<;>first|trivial
def CE(t:bT):Sf Z P (λ_=>True) (hasName t):=by refine aA (I9 t) λx _=>?_;split<;>exact .pure trivial
def qs(t:bT):Sf Z P (λ_=>True) (elem? t):=by refine aA (Qe t) λx _=>?_;split<;>exact aS trivial
def GW(t v:bT):Sf Z P (λ_=>True) (implements t v):=by
 refine aA (XE _ _) λ_ _=>aA (XE _ _) λ_ _=>aA (Qe _) λ_ _=>aA (Qe _) λ_ _=>?_;split
 exact aS trivial
 exact aA (I9 _) λ_ _=>aS trivial
 trivial
def ID(t v:bT):Sf Z P (λ_=>True) (directlyAssignable t v):=by
 unfold directlyAssignable;dsimp only;split
 ·exact aS trivial
 ·refine aA (R:=λ_=>True) (CE t) λb _=>?_;have c:Sf Z P (λ_:Bool=>True) (do let a <-under t;let d <-under v;match a.snd.desc,d.snd.desc with|.chan _ e,.chan .both f=>pure (a.fst==d.fst||e==f)|_,_=>pure (a.fst==d.fst)):=by refine aA (Qe _) λ_ _=>aA (Qe _) λ_ _=>?_;split<;>exact aS trivial
  refine aA (R:=λ_=>True) (CE v) λg _=>?_;split
  ·exact aS trivial
  ·exact c
def Dm(h:aX):Sf Z P (λ_=>True) (ofHandle h):=by
 refine .bind G7 λp _=>?_;split
 exact .pure trivial
 trivial
def vz(a:POK Z P)(t:bT):Sf Z P (VP Z) (handle t):=by refine .bind G7 ?_;rintro p rfl;exact .pure<|.ptr _ a.handle
def CC(n:String):Sf Z P (λ_=>True) (cutType n):=by
 refine .bind G7 λp _=>?_;split
 exact .pure trivial
 trivial
def cp(Z:Zone):Prop:=∀t,Z.T t
section
variable(hT:cp Z)(hP:POK Z P)
include hT hP
open Go.Extern
theorem Ab(t:bT):Sf Z P (VP Z) (ReflectliteType.toType t):=aA (CC _) λu _=>.bind (vz hP t) λh b=>.pure (.iface _ _ (hT _) (.agg _<|AP.one b))
theorem c2e{args:dU}(_:AP Z args):Sf Z P (VP Z) (ReflectliteType.typeOf args):=by
 obtain⟨l⟩:=args;obtain _|⟨x,_|⟨y,l⟩⟩:=l
 ·exact o5 _
 ·cases x<;>first|exact aS .nilIface|exact Ab hT hP _|exact o5 _
 trivial
omit hT hP in
theorem CM(v:aX):Sf Z P (λ_=>True) (ReflectliteType.ofRtype v):=by
 cases v<;>first|exact o5 _|skip
 rename_i c;obtain⟨l⟩:=c;rcases l with _|⟨x,_|⟨y,l⟩⟩
 ·exact o5 _
 ·exact aA (Dm _) λ_ _=>aA (aL _ _) λ_ _=>aS trivial
 ·exact o5 _
theorem cY{Q:α->Prop}(s:String):Sf Z P Q (panicString s:Sem α):=trivial
omit hT hP in
theorem vy{f:TypeId->Sem Value}(hf:∀t,Sf Z P (VP Z) (f t))(args:dU):Sf Z P (VP Z) (ReflectliteType.method f args):=by
 obtain⟨l⟩:=args;rcases l with _|⟨x,_|⟨y,l⟩⟩
 ·exact o5 _
 ·exact aA (CM _) λt _=>hf t
 ·exact o5 _
theorem c5O(t:bT):Sf Z P (VP Z) (ReflectliteType.elem t):=by
 refine aA (qs t) λe _=>?_;split
 exact Ab hT hP _
 exact aA (tU _) λ_ _=>cY hT hP _
omit hT hP in
theorem b2q(t:bT):Sf Z P (VP Z) (do noPackHeld "Comparable" t;pure (.bool (<-typeInfo t).comparable)):=aA (b2p _ _) λ_ _=>aA (I9 _) λ_ _=>aS (.bool _)
theorem IA{a:String}{f:TypeId->TypeId->Sem Bool}(hf:∀t u,Sf Z P (λ_=>True) (f t u))(args:dU):Sf Z P (VP Z) (ReflectliteType.relation a f args):=by
 obtain⟨l⟩:=args;rcases l with _|⟨x,_|⟨y,_|⟨z,l⟩⟩⟩
 ·exact o5 _
 ·exact o5 _
 ·cases y<;>first
   | exact cY hT hP _
   | exact aA (CM _) λ_ _=>aA (CM _) λ_ _=>aA (hf _ _) λ_ _=>aS (.bool _)
   | exact o5 _
 ·cases y<;>exact o5 _
theorem b1v(u t:bT):Sf Z P (λ_=>True) (ReflectliteType.implements_ u t):=by
 refine aA (ZE u) λk _=>?_;have b:Sf Z P _ (do noPackMethods "Implements" t;noPack "Implements" u;implements u t):=aA (XE _ _) λ_ _=>aA (aL _ _) λ_ _=>GW _ _;dsimp;split
 exact aA (R:=λ_=>True) (cY hT hP _) λ_ _=>b
 exact b
theorem a9F(u t:bT):Sf Z P (λ_=>True) (ReflectliteType.assignableTo u t):=by
 unfold ReflectliteType.assignableTo;have c:Sf Z P (λ_=>True) (do pure ((<-directlyAssignable u t)||(<-implements u t))):=by
  refine aA (ID u t) λb _=>?_
  first
   | exact aA (GW _ _) λ_ _=>aS trivial
 split
 exact aA (XE _ _) λ_ _=>aA (XE _ _) λ_ _=>c
 exact c
theorem b4P{f:TypeId->Sem Value}(b:∀t,Sf Z P (VP Z) (f t))(args:dU):Sf Z P (VP Z) (ReflectliteType.abiMethod f args):=by
 let⟨l⟩:=args;obtain _|⟨x,_|⟨y,l⟩⟩:=l
 exact o5 _
 exact aA (Dm _) λt _=>.bind (aL _ _) λ_ _=>b t
 trivial
theorem d_(t:bT)(h:Z.D a.block)(e:Nat):Sf Z P (VP Z) (ReflectliteValue.mk t a e):=aA (vz hP t) λv d=>aA (ZE t) λk _=>aS<|.agg _ (λx c=>by
  simp at c;obtain rfl|rfl|rfl:=c
  exact d
  exact .ptr a h
  exact .int _ _)
omit hT hP in
theorem qn:VP Z ReflectliteValue.zeroV:=.agg _ λx hx=>by
 simp at hx;rcases hx with rfl|rfl|rfl
 ·exact .kK
 ·exact .int _ _
theorem vx(h:VP Z v):Sf Z P (VP Z) (ReflectliteValue.unpack v):=by
 cases h with
 | nilIface=>exact aS qn
 | iface t w e c=>exact aA (Qn t c) λa d=>d_ hT hP t d 0
 | _=>trivial
theorem QG{Q:α->Prop}(m:String)(k:Nat):Sf Z P Q (ReflectliteValue.valueError m k:Sem α):=aA (CC _) λt _=>aA (Js _) λe _=>aA (Qn e<|.agg _ λx c=>by
  simp at c;obtain rfl|rfl:=c
  exact .string _
  exact .int _ _) λa _=>QB _
theorem It(h:VP Z v):Sf Z P (λo=>∀t a i,o=some (t,a,i)->Z.D a.block) (ReflectliteValue.partsAny v):=by
 have g:∀(j:aX)(a:Addr)(f:Nat),Z.D a.block->Sf Z P (λo=>∀t a i,o=some (t,a,i)->Z.D a.block) (do pure (some (<-ofHandle j,a,f))):=λj a f d=>
  aA (Dm _) λt _=>aS λs r q e=>by simp_all
 cases h<;>first|exact o5 _|skip
 rename_i c p;obtain⟨l⟩:=c;obtain _|⟨x,_|⟨y,_|⟨z,_|⟨u,l⟩⟩⟩⟩:=l
 exact o5 _
 exact o5 _
 exact o5 _
 have m:=p y aZ;cases z<;>first|exact o5 _|skip
 rename_i k n;cases k<;>first|exact o5 _|skip
 cases n with
 | ofNat n=>
  cases n with
  | zero=>exact aS λ_ _ _ h=>by cases h
  | succ n=>
   cases m with
   | ptr a d=>exact g x a (n+1) d
   | _=>exact o5 _
 | negSucc n=>
  cases m with
  | ptr a d=>exact g x a _ d
  | _=>exact o5 _
 trivial
theorem tR(h:VP Z v):Sf Z P (λo=>∀t a d,o=some (t,a,d)->Z.D a.block) (ReflectliteValue.parts v):=by
 refine .bind (It hT hP h) λo c=>?_;split
 exact .bind (aL _ _) λ_ _=>.pure c
 trivial
theorem CH{zero:Sem Value}{f:TypeId->Addr->Nat->Nat->Sem Value}(g:Sf Z P (VP Z) zero)(d:∀t a c k,Z.D a.block->Sf Z P (VP Z) (f t a c k)){args:dU}(h:AP Z args):Sf Z P (VP Z) (ReflectliteValue.method zero f args):=by
 let⟨l⟩:=args;obtain _|⟨x,_|⟨y,l⟩⟩:=l
 exact o5 _
 refine .bind (tR hT hP (h x<|aZ)) λo e=>?_
 cases o with
 | none=>exact g
 | some=>grind
 trivial
theorem b2s{zero:Sem Value}{f:TypeId->Addr->Nat->Nat->Sem Value}(g:Sf Z P (VP Z) zero)(d:∀t a c k,Z.D a.block->Sf Z P (VP Z) (f t a c k)){args:dU}(h:AP Z args):Sf Z P (VP Z) (ReflectliteValue.methodAny zero f args):=by
 let⟨l⟩:=args;obtain _|⟨x,_|⟨y,l⟩⟩:=l
 exact o5 _
 refine .bind (It hT hP (h x<|aZ)) λo e=>?_
 cases o with
 | none=>exact g
 | some=>grind
 trivial
theorem c2f(t:bT)(h:Z.D a.block)(d k:Nat):Sf Z P (VP Z) (ReflectliteValue.isNil t a d k):=by
 unfold ReflectliteValue.isNil;have c:Sf Z P (VP Z) (do match <-loadVar t a with|.chan none|.nilFunc|.nilIface|.map none|.pointer none|.slice none _ _=>pure (.bool true)|_=>pure (.bool false)):=by refine aA (Jw t h) λv _=>?_;split<;>exact aS (.bool _)
 dsimp only;split
 ·exact aA (R:=λ_=>True) (QG hT hP _ _) λ_ _=>c
 ·exact c
theorem c5P(t:bT)(h:Z.D a.block)(f k:Nat):Sf Z P (VP Z) (ReflectliteValue.elem t a f k):=by
 unfold ReflectliteValue.elem;have c:Sf Z P (VP Z) (do match k,<-loadVar t a,<-elem? t with|20,i,_=>ReflectliteValue.unpack i|22,.pointer none,_=>pure ReflectliteValue.zeroV|22,.pointer (some p),some e=>ReflectliteValue.mk e p ReflectliteValue.flagAddr|_,_,_=>ReflectliteValue.valueError "reflectlite.Value.Elem" k):=by
  refine aA (Jw t h) λv d=>aA (qs t) λe _=>?_;split
  ·exact vx hT hP d
  ·exact aS qn
  ·cases d with
   | ptr a h=>exact d_ hT hP _ h _
  ·exact QG hT hP _ _
 dsimp only;split
 ·exact aA (R:=λ_=>True) (QG hT hP _ _) λ_ _=>c
 ·exact c
theorem c8X{args:dU}(h:AP Z args):Sf Z P (VP Z) (ReflectliteValue.set args):=by
 obtain⟨l⟩:=args;rcases l with _|⟨x,_|⟨y,_|⟨z,l⟩⟩⟩
 ·exact o5 _
 ·exact o5 _
 ·unfold ReflectliteValue.set;dsimp only;refine aA (tR hT hP (h x aZ)) λo q=>aA (tR hT hP (h y aZ)) λp n=>?_
  cases o with
  | none=>exact J9 _ trivial
  | some o=>
   cases p with
   | none=>exact J9 _ trivial
   | some p=>
    obtain⟨f,a,u⟩:=o;obtain⟨e,b,w⟩:=p;have s:=q _ _ _ rfl;have r:=n _ _ _ rfl;have store:∀v,VP Z v->Sf Z P (VP Z) (do storeVar f a v;pure (.tuple #[])):=λv t=>aA (I' f s t) λ_ _=>aS (.tuple _ kU);have m:Sf Z P (VP Z) (do
     let j <-loadVar e b
     if <-directlyAssignable f e then storeVar f a j
     else if <-implements f e then
      if (<-kind e)==20 then
       match j with
       | .nilIface=>unsupported (.noEntry "extern/reflectlite: a nil value of one interface type handed on as a value of another")
       | _=>storeVar f a j
      else storeVar f a (.iface e j)
     else panicString ("reflectlite.Set: value of type "++(<-spelt e)++ " is not assignable to type "++(<-spelt f))
     pure (.tuple #[])):=by
     refine aA (Jw e r) λj g=>aA (ID f e) λd _=>?_;split
     ·exact store _ g
     ·refine aA (GW f e) λi _=>?_;split
      ·refine aA (ZE e) λk _=>?_;split
       ·split
        ·exact aA (R:=λ_=>True) (J9 _ trivial) λ_ _=>aS (.tuple _ kU)
        ·exact store _ g
       ·exact store _ (.iface _ _ (hT _) g)
      ·exact aA (tU _) λ_ _=>aA (tU _) λ_ _=>aA (R:=λ_=>True) (cY hT hP _) λ_ _=>aS (.tuple _ kU)
    dsimp only;split
    ·exact aA (R:=λ_=>True) (J9 _ trivial) λ_ _=>m
    ·exact m
 ·exact o5 _
omit hT hP in
theorem c7s{args:dU}(h:AP Z args):Sf Z P (VP Z) (AbiNoEscape.same args):=by
 obtain⟨l⟩:=args;rcases l with _|⟨x,_|⟨y,l⟩⟩
 ·exact o5 _
 ·exact aS (h x aZ)
 ·exact o5 _
omit hT hP in
theorem b2t(h:Z.D a.block)(n:Nat):∀acc,Sf Z P (λ_=>True) (Bytes.loadBytes a n acc):=by
 induction n generalizing a with
 | zero=>intro acc;exact aS trivial
 | succ n ih=>
  intro acc;unfold Bytes.loadBytes;refine aA (WH h) λv _=>?_;split
  ·exact ih (by unfold Addr.add;split<;>exact h) _
  ·exact o5 _
omit hT hP in
theorem Cd(h:VP Z v):Sf Z P (λ_=>True) (Bytes.bytesOf v):=by
 cases h with
 | string s=>exact aS trivial
 | jv n c=>exact aS trivial
 | slice a n c ha=>exact b2t ha _ _
 | _=>exact o5 _
omit hT hP in
theorem c2g(v:aX):Sf Z P (λ_=>True) (Bytes.asByte v):=by
 unfold Bytes.asByte;split
 ·exact aS trivial
 ·exact o5 _
omit hT hP in
theorem b4Q{args:dU}(h:AP Z args):Sf Z P (VP Z) (BytealgIndexByte.indexByte args):=by
 obtain⟨l⟩:=args;rcases l with _|⟨x,_|⟨y,_|⟨z,l⟩⟩⟩
 ·exact o5 _
 ·exact o5 _
 ·unfold BytealgIndexByte.indexByte;refine aA (Cd (h x aZ)) λb _=>aA (c2g _) λc _=>?_;split<;>exact aS (.int _ _)
 ·exact o5 _
omit hT in
theorem b2u(hG:∀b,b<P.globals.size->Z.D b)(n:String):Sf Z P (λa=>Z.D a.block) (globalAddr n):=by
 unfold globalAddr;refine aA G7 ?_;rintro p rfl;split
 ·rename_i g hg;exact aS (hG _ (Array.findIdx?_eq_some_iff_getElem.1 hg).1)
 ·exact o5 _
omit hT in
theorem c5Q(hG:∀b,b<P.globals.size->Z.D b){args:dU}(h:AP Z args):Sf Z P (VP Z) (BytealgIndex.index args):=by
 obtain⟨l⟩:=args;rcases l with _|⟨x,_|⟨y,_|⟨z,l⟩⟩⟩
 ·exact o5 _
 ·exact o5 _
 ·unfold BytealgIndex.index BytealgIndex.maxLen;refine aA (Cd (h x aZ)) λb _=>aA (Cd (h y aZ)) λc _=>aA (R:=λ_=>True) (aA (b2u hP hG _) λa ha=>aA (WH ha) λv _=>MB _) λn _=>?_;have last:Sf Z P (VP Z) (match (List.range (b.size+1 - c.size)).find? λi=>b.extract i (i+c.size)==c with|some i=>pure (goInt i)|none=>pure (goInt (-1))):=by split<;>exact aS (.int _ _)
  have rest:Sf Z P (VP Z) (do
   if b.size ≥ 2^32 - 15 then unsupported (.noEntry "extern/internal/bytealg.Index: a haystack of 2^32 - 15 bytes or more")
   match (List.range (b.size+1 - c.size)).find? λi=>b.extract i (i+c.size)==c with|some i=>pure (goInt i)|none=>pure (goInt (-1))):=by
   dsimp only;split
   ·exact aA (R:=λ_=>True) (J9 _ trivial) λ_ _=>last
   ·exact last
  exact Q9 _ (aA (R:=λ_=>True) (J9 _ trivial) λ_ _=>rest) rest
 ·exact o5 _
omit hT hP in
theorem xN:∀(n t:Nat){acc:dU},AP Z acc->AP Z (BytealgMakeNoZero.digits n t acc)
 | 0,_,_,h=>h
 | n+1,t,_,h=>xN n (t/256) (h.push (.int _ _))
omit hT in
theorem b2v(ps rs:Array TypeId){args:dU}(_:AP Z args):Sf Z P (VP Z) (BytealgMakeNoZero.makeNoZero ps rs args):=by
 obtain⟨l⟩:=args;rcases l with _|⟨x,_|⟨y,l⟩⟩
 ·exact o5 _
 ·cases x with
  | int k n=>
   cases k<;>first|exact o5 _|skip
   show Sf Z P (VP Z) (BytealgMakeNoZero.makeNoZero ps rs #[.int .i64 n]);unfold BytealgMakeNoZero.makeNoZero;have rest:∀elem,Sf Z P (VP Z) (do
    let cap <-choose (.appendCap n.toNat 0 elem)
    askRoom cap
    let bytes <-choose (.extern "internal/bytealg.MakeNoZero.bytes" 0)
    let a <-newRow elem (BytealgMakeNoZero.digits cap bytes #[])
    pure (.slice (some a) n.toNat cap)):=λelem=>
    aA (N7 _) λc _=>aA (C2 _) λ_ _=>aA (N7 _) λb _=>aA (Ey elem (xN _ _ kU)) λa ha=>aS (.slice _ _ _ ha)
   dsimp only;split
   ·refine aA (o9 _) λd _=>?_;split
    ·split
     ·exact aA (R:=λ_=>True) (D9 hP _) λ_ _=>rest _
     ·exact rest _
    ·exact o5 _
   ·exact o5 _
  | _=>exact o5 _
 ·cases x with
  | int k n=>cases k<;>exact o5 _
  | _=>exact o5 _
omit hT in
theorem c2h(t:Extern.Atomic.T){args:dU}(h:AP Z args):Sf Z P (VP Z) (Atomic.loadT t args):=by
 obtain⟨l⟩:=args;rcases l with _|⟨x,_|⟨y,l⟩⟩
 ·exact o5 _
 ·unfold Atomic.loadT Atomic.read;refine aA (Qm hP (h x aZ)) λa ha=>aA (c5q ha) λv hv=>?_;split<;>first|exact aS hv|exact J9 _ trivial|skip
  split
  ·exact aS hv
  ·exact J9 _ trivial
 ·exact o5 _
end
end
end Go.Zn
