/- A part of what the last file proves. -/
import Derived.Test.YtgpbhjjajpbeeaaGreatDoorA06
import Derived.Conc.CrowdStepC2
import Derived.Conc.Beside
set_option linter.all false
namespace Go.Nm
variable{l:iZ}{w:aB}{k κ:List Item}
section
open Zn (iG jg ext kk low Gr K0 Stops Jj Hf L8 MJ raise_mode QA MG cG cB cF Me)
variable{P:Program}{D:m_}
def kM(D:m_):Code->Prop
 | .seq a b=>kM D a/\kM D b
 | .cond _ a b=>kM D a/\kM D b
 | .block _ b=>kM D b
 | .loop b=>kM D b
 | .scope b=>kM D b
 | .region _ c _=>∀o∈c,eC D o.op
 | .rangeFunc ..=>False
 | _=>True
inductive wQ(D:m_):Item->Prop
 | code (c:Code) (h:kM D c):wQ D (.code c)
 | inBlock (id:Nat):wQ D (.inBlock id)
 | inLoop (c:Code) (h:kM D c):wQ D (.inLoop c)
 | inScope (c:Code) (h:kM D c):wQ D (.inScope c)
 | inRegion (ops:Array Oper) (l:List Nat) (h:∀o∈ops,eC D o.op):wQ D (.inRegion ops l)
structure Il(D:m_)(fr:Frame):Prop where
 todo:∀x∈fr.todo,wQ D x
 defers:fr.defers=[]
 mode:fr.mode=.run\/fr.mode=.returning
 kind:fr.kind=.normal
 round:fr.roundOf=none
structure rJ(D:m_)(fr:Frame)(l:List Frame):Prop where
 fr:Il D fr
 low:∀x∈l,Il D x/\x.mode=.run/\x.todo≠[]
structure Jz(D:m_)(P:Program):Prop extends PN D P where
 early:∀g,P.globals.size<=g->P.stepOf g=none
 code:∀f fn c,D.F f->P.funcs[f]?=some fn->fn.body=some c->kM D c
inductive yt(D:m_)(l:List Frame)(w:World)(s:List Item->List Frame->GStep):Prop
 | go (fr':Frame) (l':List Frame) (w':World) (es:Array Event) (h:∀κ cs,s κ cs=.go (Gr fr' l' κ cs) w' es) (hI:rJ D fr' l') (hr:Rows w w') (he:∀e∈es,tX w' e):yt D l w s
 | bad (fr':Frame) (chain:List PanicEntry) (w':World) (es:Array Event) (h:∀κ cs,s κ cs=.go (Gr fr' l κ cs) w' es) (hm:fr'.mode=.panicking chain) (hd:fr'.defers=[]):yt D l w s
 | stop (h:∀cs,Stops (s K0 cs)):yt D l w s
theorem yt.congr{s s':List Item->List Frame->GStep}(h:∀κ cs,s κ cs=s' κ cs)(k:yt D l w s'):yt D l w s:=by
 have:s=s':=fU
 grind
theorem Il.finish{fr:Frame}(h:Il D fr)(v:aX):Il D (fr.finish v)/\(fr.finish v).mode=fr.mode/\(fr.finish v).roundOf=fr.roundOf:=by
 let⟨u,p,g,m,o,n,e⟩:=fr;obtain⟨a,d,b,c,j⟩:=h;dsimp;cases g with
 | nil=>exact⟨⟨a,d,b,c,j⟩,rfl,rfl⟩
 | cons x=>
  cases a x<|by simp with
  | inRegion r l h=>
   cases l with
   | nil=>exact⟨⟨a,d,b,c,j⟩,rfl,rfl⟩
   | cons=>
    refine⟨⟨λy f=>?_,d,b,c,j⟩,rfl,rfl⟩;obtain rfl|f:=bI.1 f
    exact .inRegion _ _ h
    grind
  | _=>exact⟨⟨a,d,b,c,j⟩,rfl,rfl⟩
theorem c1l(g:Jz D P){f:FuncId}(h:D.F f)(args:dU):Il D (Frame.enter P f args .normal):=by
 refine⟨λx e=>?_,rfl,.inl rfl,rfl,rfl⟩;simp[Frame.enter,dB] at e;subst e;refine .code _ ?_
 cases a:P.funcs[f]? with
 | none=>trivial
 | some d=>
  cases b:d.body with
  | none=>simp[fK,b];trivial
  | some c=>simp[fK,b];exact g.code f d c h a b
theorem c4B{fr:Frame}(h:Il D fr)(i:fr.todo≠[]){d:Deferred}{b:Bool}{r:String}{s:dU}(e:(ext fr κ).todo=.call d b r s::k):False:=by
 let⟨o,m,a,g,l,j,f⟩:=fr
 cases a with
 | nil=>trivial
 | cons x=>injection e with n;have:=h.todo x aZ;rw[n] at this;trivial
def Xy{n:Nat}{fn:FuncId}{es:Array Event}(h:∀e∈es,tX n e):∀e∈seen P fn es++#[],tX n e:=λe a=>h e<|Go.Conc.mem_seen a
theorem c1m(H:Jz D P){fr:Frame}(K:∀g,g<P.globals.size->lY w g)(m:rJ D fr l)(N:fr.mode=.run)(n:fr.todo≠[]){s:Sem Next}(I:Nf P (LM D) s):
 yt D l w (λκ cs=>stepG.apply P true (ext fr (kk l κ)) (low l κ cs) none s w):=by
 have k:∀κ,((ext fr κ).kind==CallKind.early)=false:=λκ=>by show(fr.kind==CallKind.early)=false;rw[m.fr.kind];rfl
 have j:∀κ q,seen P (ext fr κ).fn q=seen P fr.fn q:=λ_ _=>rfl;obtain⟨⟨r,q⟩,b⟩:∃x,s.runT P w #[]=x:=⟨_,rfl⟩;obtain⟨t,J⟩:=I.run w #[];rw[b] at t J
 cases r with
 | ok a u=>
  obtain⟨G,O,i⟩:=I.low b;replace i:=i aZ
  cases a with
  | value v=>
   refine .go (fr.finish v) l u (seen P fr.fn q++#[]) (λκ cs=>?_) ⟨(m.fr.finish v).1,m.low⟩ t (Xy i);unfold stepG.apply;simp only[if_true,k,j,b,L8 n]
   rfl
  | skip=>
   refine .go (fr.finish undef) l u (seen P fr.fn q++#[]) (λκ cs=>?_) ⟨(m.fr.finish undef).1,m.low⟩ t (Xy i);unfold stepG.apply;simp only[if_true,k,j,b,L8 n]
   rfl
  | enter f d=>
   refine .go _ (fr::l) u (seen P fr.fn q++#[]) (λκ cs=>?_) ⟨c1l H G d,λx C=>?_⟩ t (Xy i)
   ·unfold stepG.apply;simp only[if_true,k,j,b];dsimp only[GStep.after];split
    rename_i e;exact(c4B m.fr n e).elim
    rfl
   ·obtain rfl|C:=bI.1 C
    exact⟨m.fr,N,n⟩
    exact m.low x C
  | _=>exact G.elim
 | halt x u=>
  obtain z|⟨g,rfl,L⟩:=J x u rfl
  cases x with
  | panic v=>
   obtain⟨c,Q,M⟩:=raise_mode fr _;refine .bad (fr.raise _) c u (seen P fr.fn q++#[]) (λκ cs=>?_) Q (M.trans m.fr.defers);unfold stepG.apply;simp only[if_true,k,j,b,MJ]
   rfl
  | stuck x=>
   refine .stop λcs=>?_;unfold stepG.apply;simp only[if_true,k,b]
   trivial
  | unsupported y=>
   refine .stop λcs=>?_;unfold stepG.apply;simp only[if_true,k,b]
   cases y<;>first|exact(z:False).elim|trivial
  | _=>exact(z:False).elim
  by_cases p:P.follows .staticDataAhead=true
  refine .stop λcs=>?_;unfold stepG.apply;simp only[if_true,k,b];unfold early;simp[p,H.early g (by
   obtain h|h:=bH g _
   exact absurd (t.2 g (K g h)) L
   exact h)];trivial
  cases B:u.heap[g]? with
  | none=>
   refine .stop λcs=>?_;unfold stepG.apply;simp only[if_true,k,b];unfold early;simp[p,B]
   trivial
  | some o=>
   by_cases A:∃c e,o=.pending c e
   obtain⟨c,e,rfl⟩:=A;refine .go fr l {u with heap:=u.heap.setIfInBounds g (.cells c e)} (seen P fr.fn #[]++#[]) (λκ cs=>?_) m (t.trans (tz u B λ_ _ _ h=>by cases h)) (Xy aZ);unfold stepG.apply;simp only[if_true,k,j,b];unfold early;simp[p,B];rfl
   refine .stop λcs=>?_;unfold stepG.apply;simp only[if_true,k,b];unfold early;simp[p,B];cases o<;>first|trivial|simp_all
end
section
open Zn (iG jg ext kk low Gr K0 Stops Jj Hf L8 MJ raise_mode QA MG cG cB cF Me Stop)
variable{P:Program}{D:m_}
theorem b7Q(fn:Func)(b:dU):Mf P (results fn b):=by
 refine l7 (oe _ _ λr=>?_) λc=>?_
 split
 exact trivial
 exact l7 Xj λa=>MI _
 trivial
def Ai{fr:Frame}(a:rJ D fr l)(b:∀x∈k,wQ D x){s:List Item->List Frame->GStep}(h:∀κ cs,s κ cs=.go (Gr {fr with todo:=k} l κ cs) w #[]):yt D l w s:=
 .go _ l w _ h ⟨⟨b,a.fr.defers,a.fr.mode,a.fr.kind,a.fr.round⟩,a.low⟩ (.refl w) aZ
def ns{fr:Frame}(a:rJ D fr l){s:List Item->List Frame->GStep}(h:∀κ cs,s κ cs=.go {frame:={ext fr (kk l κ) with mode:=.returning},callers:=low l κ cs,status:=.running,dying:=none} w #[]):yt D l w s:=
 .go {fr with mode:=.returning} l w _ h ⟨⟨a.fr.todo,a.fr.defers,.inr rfl,a.fr.kind,a.fr.round⟩,a.low⟩ (.refl w) aZ
theorem b1U:∀{c:Code}{l:Nat}{r:Code},kM D c->findLabel c l=some r->kM D r:=by
 intro c
 induction c with
 | seq a b f d=>
  intro l r h e;unfold findLabel at e;split at e
  rename_i g i;injection e with e;subst e;exact⟨f h.1 i,h.2⟩
  exact d h.2 e
 | label=>
  intro l r h e;unfold findLabel at e;split at e
  injection e with e;subst e;trivial
  cases e
 | _=>intro l r h e;cases e
theorem b7R{l:Nat}:∀{k k':List Item},(∀x∈k,wQ D x)->gotoIn l k=some k'->∀x∈k',wQ D x:=by
 intro k
 induction k with
 | nil=>intro k' _ h;cases h
 | cons y k d=>
  intro k' g h;cases y with
  | inScope a=>
   have f:kM D a:=by have:=g _ gQ;cases this;trivial
   unfold gotoIn at h;split at h
   rename_i j e;injection h with h;subst h;intro x c;obtain rfl|c:=bI.1 c
   exact .code _<|b1U f e
   obtain rfl|c:=bI.1 c
   exact .inScope _ f
   grind
   grind
  | _=>exact d (λx c=>g x<|eX _ c)<|h
theorem c4C(V:Jz D P){fr:Frame}(Z:∀g,g<P.globals.size->lY w g)(p:rJ D fr l)(W:fr.mode=.run)(I:¬(l=[]/\fr.todo=[])):
 yt D l w (λκ cs=>stepG.exec P true true (ext fr (kk l κ)) (low l κ cs) none w):=by
 obtain⟨r,j,G,d,T,m,u⟩:=fr;dsimp only at W I;subst W;have C:=p.fr;have O:u=none:=C.round;subst O
 cases G with
 | nil=>
  cases l with
  | nil=>trivial
  | cons c l=>exact ns p λ_ _=>rfl
 | cons x k=>
  have A:∀y∈k,wQ D y:=λy v=>C.todo y (by simp[v]);have L:∀{a:Item},wQ D a->∀y∈a::k,wQ D y:=λR y v=>by
   obtain rfl|v:=bI.1 v
   exact R
   exact A y v
  have E:∀{a b:Item},wQ D a->wQ D b->∀y∈a::b::k,wQ D y:=λR F y v=>by
   obtain rfl|v:=bI.1 v
   exact R
   exact L F y v
  cases (C.todo x aZ) with
  | inLoop c h=>exact Ai p (E (.code _ h) (.inLoop _ h)) λ_ _=>rfl
  | inRegion n Y h=>
   cases Y with
   | nil=>exact Ai p A λ_ _=>rfl
   | cons i q=>
    by_cases K:((n[i]?).map (Region.wanted · (yielded n j))).getD false=true
    cases S:n[i]? with
    | none=>rw[S] at K;cases K
    | some o=>refine yt.congr (λκ cs=>?_) (c1m V Z p rfl aZ (s:=execOp (Frame.eval ⟨r,j,.inRegion n (i::q)::k,d,.run,m,none⟩) o) (c1j V.toPN (h o (Array.mem_of_getElem? S)) λf=>rfl));show stepG.exec P true true ⟨r,j,.inRegion n (i::q)::(k++kk l κ),d,.run,m,none⟩ (low l κ cs) none w=_;unfold stepG.exec;dsimp only;rw[if_pos K];unfold stepG.oper;simp only[show(Frame.oper? ⟨r,j,.inRegion n (i::q)::(k++kk l κ),d,.run,m,none⟩)=some o from S];rfl
    refine .go _ l w #[] (λκ cs=>?_) ⟨(p.fr.finish undef).1,p.low⟩ (Rows.refl w) aZ;unfold Gr;rw[<-L8 aZ];show stepG.exec P true true ⟨r,j,.inRegion n (i::q)::(k++kk l κ),d,.run,m,none⟩ _ none _=_;unfold stepG.exec;dsimp;rw[if_neg K]
    rfl
  | code c s=>
   cases c with
   | seq a b=>exact Ai p (E (.code _ s.1) (.code _ s.2)) λ_ _=>rfl
   | cond c a b=>
    by_cases B:∃t,Frame.eval ⟨r,j,.code (.cond c a b)::k,d,.run,m,none⟩ c=.bool t
    obtain⟨t,B⟩:=B;refine Ai p (k:=.code (if t then a else b)::k) (L<|.code _ ?_) λκ cs=>?_
    split
    exact s.1
    exact s.2
    rw[<-Hf _ (kk l κ)] at B;unfold stepG.exec ext;dsimp[List.cons_append];dsimp[ext,List.cons_append] at B;rw[B];rfl
    refine .stop λcs=>?_;rw[<-Hf _ (kk l K0)] at B;unfold stepG.exec ext;dsimp[ext,List.cons_append] at B⊢;split
    rename_i t e;exact absurd ⟨t,e⟩ B
    trivial
   | block id b=>exact Ai p (E (.code b s)<|.inBlock id) λ_ _=>rfl
   | loop b=>exact Ai p (E (.code b s)<|.inLoop b s) λ_ _=>rfl
   | scope b=>exact Ai p (E (.code b s)<|.inScope b s) λ_ _=>rfl
   | ret=>exact ns p λ_ _=>rfl
   | refuse z=>exact .stop λ_=>trivial
   | exit id=>
    cases e:exitTo id k with
    | none=>
     refine .stop λcs=>?_;show Stops (stepG.exec P true true ⟨r,j,.code _::(k++kk l K0),d,.run,m,none⟩ _ none _);unfold stepG.exec;dsimp
     cases l with
     | nil=>rw[show exitTo id (k++kk [] K0)=none from cG e];trivial
     | cons c l=>rw[show exitTo id _=none by rw[show kk (c::l) K0=[] from rfl,dX];exact e];trivial
    | some M=>
     refine Ai p (λy v=>A y<|QA e y v) λκ cs=>?_;show stepG.exec P true true ⟨r,j,.code _::(k++kk l κ),d,.run,m,none⟩ _ none _=_;unfold stepG.exec;dsimp;rw[MG _ e]
     rfl
   | goto J=>
    cases e:gotoIn J k with
    | none=>
     refine .stop λcs=>?_;show Stops (stepG.exec P true true ⟨r,j,.code _::(k++kk l K0),d,.run,m,none⟩ _ none _);unfold stepG.exec;dsimp
     cases l with
     | nil=>rw[show gotoIn J (k++kk [] K0)=none from cF e];trivial
     | cons c l=>rw[show gotoIn J _=none by rw[show kk (c::l) K0=[] from rfl,dX];exact e];trivial
    | some=>
     refine Ai p (b7R A e) λκ cs=>?_;show stepG.exec P true true ⟨r,j,.code _::(k++kk l κ),d,.run,m,none⟩ _ none _=_;unfold stepG.exec;dsimp;rw[cB _ e]
     rfl
   | region id n H=>
    cases H with
    | false=>exact Ai p (L<|.inRegion n _ s) λ_ _=>rfl
    | true=>exact .go ⟨r,j,.inRegion n (Region.schedule _ n ((Question.order r id).cut (w.tape _<|.order r id)))::k,d,.run,m,none⟩ l _ #[] (λκ cs=>rfl) ⟨⟨L<|.inRegion n _ s,C.defers,C.mode,C.kind,C.round⟩,p.low⟩ ⟨ak _,λ_ h=>h⟩<|aZ
   | rangeFunc=>trivial
   | _=>exact Ai p A λ_ _=>rfl
  | _=>exact Ai p A λ_ _=>rfl
theorem b7S{fr:Frame}(d:rJ D fr l)(y:fr.mode=.returning)(i:l≠[]):
 yt D l w (λκ cs=>unwind P true (ext fr (kk l κ)) (low l κ cs) none w):=by
 have g:∀k,(ext fr k).mode=.returning:=λ_=>y;have h:∀k,(ext fr k).defers=[]:=λ_=>d.fr.defers;have j:∀k,(ext fr k).fn=fr.fn:=λ_=>rfl;have q:∀k,(ext fr k).tmps=fr.tmps:=λ_=>rfl
 cases l with
 | nil=>trivial
 | cons c l=>
  let⟨n,t,b⟩:=d.low c aZ;have p:∀x∈l,Il D x/\x.mode=.run/\x.todo≠[]:=λx z=>d.low x (by simp[z])
  cases a:P.funcs[fr.fn]? with
  | none=>
   refine .go (c.finish (fr.tmps.getD 0 undef)) l w #[] (λκ cs=>?_) ⟨(n.finish _).1,p⟩ (Rows.refl w) aZ;unfold unwind;rw[h,g];dsimp;rw[j,a];dsimp;unfold doReturn;rw[show(ext fr _).kind=.normal from d.fr.kind];rw[Me];dsimp;rw[L8 b]
   rfl
  | some o=>
   let⟨⟨r,B⟩,e⟩:∃x,(results o fr.tmps).runT P w #[]=x:=⟨_,rfl⟩;have m:=b7Q (P:=P) o fr.tmps;obtain⟨s,-⟩:=m.run w #[];rw[e] at s
   cases r with
   | ok v u=>
    obtain⟨-,A,f⟩:=m.low e;refine .go (c.finish v) l u (seen P fr.fn B++#[]) (λκ cs=>?_) ⟨(n.finish _).1,p⟩ s (Xy (f aZ));unfold unwind;rw[h,g];dsimp;rw[j,a];dsimp;rw[q,e]
    apply Zn.sD P d.fr.kind b v _ κ cs
   | halt x=>refine .stop λcs=>?_;unfold unwind;rw[h,g];dsimp;rw[j,a];dsimp;rw[q,e];cases x<;>trivial
theorem c4E(e:Jz D P){fr:Frame}(d:∀g,g<P.globals.size->lY w g)(c:rJ D fr l)(b:¬Stop fr l):
 yt D l w (λκ cs=>stepG P true (Gr fr l κ cs) w):=by
 obtain a|a:=c.fr.mode
 refine yt.congr (λκ cs=>?_)<|c4C e d c a λh=>b ⟨h.1,.inl ⟨a,h.2⟩⟩;unfold stepG Gr;dsimp;rw[show(ext fr<|kk l κ).mode=.run from a]
 refine .congr (λκ cs=>?_)<|b7S (P:=P) c a λh=>b ⟨h,.inr ⟨a,c.fr.defers⟩⟩;unfold stepG Gr;simp;rw[show(ext _<|kk l _).mode=.returning from a]
end
section
open Zn (ext kk low Gr K0 c0 Stops Stop yX Dead Jj MJ raise_mode Jo Q8 Dn Y0 G2 Qw Me cj)
variable{P:Program}{D:m_}{A:Frame->World->Prop}
inductive Way(P:Program)(A:Frame->World->Prop):Frame->List Frame->World->Prop
 | stop (fr:Frame) (w:World) (h:A (ext fr K0) w):Way P A fr [] w
 | step (fr:Frame) (l:List Frame) (w:World) (fr':Frame) (l':List Frame) (w':World) (es:Array Event) (h:∀κ cs,stepG P true (Gr fr l κ cs) w=.go (Gr fr' l' κ cs) w' es) (hr:Rows w w') (he:∀e∈es,tX w' e) (k:Way P A fr' l' w'):Way P A fr l w
section
variable(hA:∀F w,A F w->∀c,F.mode≠.panicking c)
include hA
theorem b5O:∀(l:iZ)(fr:Frame)(w:aB)(c:List PanicEntry),fr.mode=.panicking c->fr.defers=[]->(∀x∈l,Il D x/\x.mode=.run/\x.todo≠[])->Dead P A (lone (ext fr (kk l K0)) (low l K0 [c0]) w):=by
 intro l
 induction l with
 | nil=>
  intro fr w c b e _;have a:=Qw (P:=P) (F:=ext fr<|kk [] K0) (cs:=low [] K0 [c0]) (w:=w) b;by_cases d:(ext fr<|kk [] K0).catches P=true
  refine Q8 (Y0 hA b) a ?_;unfold unwind;rw[show(ext fr<|kk [] K0).defers=[] from e,show(ext fr<|kk [] K0).mode=.panicking c from b];dsimp;rw[if_pos d];trivial
  refine Dn (Y0 hA b) (F':=c0.raise c) (w':=w) (es:=#[]) (a.trans ?_) G2;unfold unwind;rw[show(ext fr<|kk [] K0).defers=[] from e,show(ext fr<|kk [] K0).mode=.panicking c from b];dsimp;rw[if_neg d]
  rfl
 | cons x l j=>
  intro fr w c b e f;have a:=Qw (P:=P) (F:=ext fr<|kk (x::l) K0) (cs:=low (x::l) K0 [c0]) (w:=w) b;by_cases d:(ext fr<|kk (x::l) K0).catches P=true
  refine Q8 (Y0 hA b) a ?_;unfold unwind;rw[show(ext fr<|kk _ K0).defers=[] from e,show(ext fr<|kk _ K0).mode=.panicking c from b];dsimp;rw[if_pos d];trivial
  let⟨g,i,k⟩:=raise_mode x c;refine Dn (Y0 hA b) (es:=#[]) (a.trans ?_) (j _ w g i (k.trans (f x aZ).1.defers) λy m=>f y<|by simp[m]);unfold unwind;rw[show(ext fr<|kk _ K0).defers=[] from e,show(ext fr<|kk _ K0).mode=.panicking c from b];dsimp;rw[if_neg d,Me];dsimp;rw[MJ]
omit hA in
theorem b7T{fr:Frame}(hI:rJ D fr [])(hs:Stop fr [])(hn:¬A (ext fr K0) w):Dead P A (lone (ext fr K0) [c0] w):=by
 have h0:¬yX A (lone (ext fr K0) [c0] w):=by rintro⟨F',w',e,ha⟩;obtain⟨rfl,-,rfl⟩:=Jo e;exact hn ha
 have hk:=hI.fr.kind;have II:∀(v:aX)(w:aB),Dead P A (lone (c0.finish v) [] w):=λv w=>Q8 cj rfl (by unfold stepG c0 Frame.finish K0;dsimp only;unfold stepG.exec;trivial)
 rcases hs.2 with⟨hm,ht⟩|⟨hm,hd⟩
 ·refine Q8 h0 rfl ?_;obtain⟨fn,tmps,todo,defers,mode,kind,roundOf⟩:=fr;dsimp only at hm ht;subst hm ht;trivial
 ·have hst:stepG P true {frame:=ext fr K0,callers:=[c0],status:=.running,dying:=none} w=unwind P true (ext fr K0) [c0] none w:=by unfold stepG;dsimp only;rw[show(ext fr K0).mode=.returning from hm]
  have ed:(ext fr K0).defers=[]:=hd;have em:(ext fr K0).mode=.returning:=hm;have ek:(ext fr K0).kind=.normal:=hk
  cases hfn:P.funcs[fr.fn]? with
  | none=>
   refine Dn h0 (hst.trans ?_) (II ((ext fr K0).tmps.getD 0 undef) w) (es:=#[]);unfold unwind;rw[ed,em];dsimp only;rw[show(ext fr K0).fn=fr.fn from rfl,hfn];dsimp only;unfold doReturn
   rw[ek]
  | some fn=>
   cases hr:(results fn (ext fr K0).tmps).runT P w #[] with
   | mk r es=>
   cases r with
   | ok v u=>
    refine Dn h0 (hst.trans ?_) (II v u) (es:=seen P fr.fn es++#[]);unfold unwind;rw[ed,em];dsimp only;rw[show(ext fr K0).fn=fr.fn from rfl,hfn];dsimp only;rw[hr];dsimp only;unfold doReturn;rw[ek]
    rfl
   | halt x u=>refine Q8 h0 hst ?_;unfold unwind;rw[ed,em];dsimp only;rw[show(ext fr K0).fn=fr.fn from rfl,hfn];dsimp only;rw[hr];cases x<;>trivial
theorem qB(y:Jz D P):∀(n:Nat)(fr:Frame)(l:iZ)(w:aB),(∀g,g<P.globals.size->lY w g)->rJ D fr l->(∃f,runN P n (lone (ext fr (kk l K0)) (low l K0 [c0]) w)=.next f/\yX A f)->Way P A fr l w:=by
 intro n
 induction n with
 | zero=>
  rintro fr l w r q ⟨f,d,F,j,rfl,t⟩;injection d with d;obtain⟨rfl,k,rfl⟩:=Jo d
  cases l with
  | nil=>exact .stop fr w t
  | cons x l=>
   have:=congrArg List.length k
   cases l<;>simp[low] at this
 | succ n z=>
  intro fr l w r q ⟨f,d,a⟩;by_cases o:yX A (lone (ext fr<|kk l K0) (low l K0 [c0]) w)
  let⟨F,j,e,t⟩:=o;let⟨rfl,k,rfl⟩:=Jo e
  cases l with
  | nil=>exact .stop fr w t
  | cons x l=>have:=congrArg List.length k;cases l<;>simp[low] at this
  by_cases s:Stop fr l
  obtain rfl:l=[]:=s.1;exact absurd a<|b7T q s (λh=>o ⟨_,_,rfl,h⟩) _ f d
  cases c4E y r q s with
  | go b p j v h u m G=>
   refine .step fr l w b p j v h m G (z b p j (λg C=>m.2 g<|r g C) u ⟨f,?_,a⟩);simp[runN,step_lone_go<|by have:=h K0 ;show(stepG P _ (Gr fr l K0 [c0]) w).bare=_;rw[this];rfl] at d
   exact d
  | bad b c j v h B E=>exact absurd a<|Dn o (h K0 _) (b5O hA l b j c B E q.low) _ f d
  | stop h=>exact absurd a<|Q8 o rfl (h _) _ f d
end
end
end Go.Nm
namespace Go.Mc
open Go.Conc Go.ConcN
variable{g:iY}{w:aB}{B i k q r:Nat}
inductive Tr:Type where
 | leaf:Tr
 | node (f:World->Tr):Tr
inductive sQ:Tr->Tr->Prop
 | mk (f:World->Tr) (w:World):sQ (f w) (.node f)
theorem sQ.wf:WellFounded sQ:=⟨λT=>by
 induction T with
 | leaf=>exact⟨_,λy h=>by cases h⟩
 | node=>exact⟨_,λy h=>by cases h<;>grind⟩⟩
def Jd(n:Nat)(T' T:Nat->Tr):Prop:=∃i,i<n/\sQ (T' i) (T i)/\∀k,k≠i->T' k=T k
theorem Jd.acc(n:Nat):∀T:Nat->Tr,Acc (Jd n) T:=by
 induction n with
 | zero=>exactλT=>⟨_,λy h=>by let⟨i,j,_⟩:=h;omega⟩
 | succ n g=>
  have d:∀(x:Tr),Acc sQ x->∀T,Acc (Jd n) T->T n=x->Acc (Jd<|n+1) T:=by
   intro x k
   induction k with
   | intro x _ m=>
    intro T l
    induction l with
    | intro T _ o=>
     intro e;refine⟨_,λc h=>?_⟩;let⟨i,j,b,f⟩:=h;by_cases a:i=n
     subst a;exact m _ (e▸b) c (g c) rfl
     exact o c ⟨i,aj,b,f⟩ ((f n<|.symm a).trans e)
  exactλT=>d _ (sQ.wf.apply _) T (g T) rfl
structure Mu where
 S:Nat
 T:Nat->Tr
 T0:Tr
 e:Nat
inductive tV(n:Nat):Mu->Mu->Prop
 | stage (a b:Mu) (h:a.S<b.S):tV n a b
 | worker (a b:Mu) (h:a.S=b.S) (hT:Jd n a.T b.T):tV n a b
 | starter (a b:Mu) (h:a.S=b.S) (hT:a.T=b.T) (h0:sQ a.T0 b.T0):tV n a b
 | blocks (a b:Mu) (h:a.S=b.S) (hT:a.T=b.T) (h0:a.T0=b.T0) (he:a.e<b.e):tV n a b
theorem tV.wf(n:Nat):WellFounded (tV n):=⟨by
 have f:∀(s:Nat),∀(T:Nat->Tr),Acc (Jd n) T->∀(x:Tr),Acc sQ x->∀e,Acc (tV n) ⟨s,T,x,e⟩:=by
  intro s
  induction s using Nat.strongRecOn with
  | _ s d=>
   intro T m
   induction m with
   | intro T _ k=>
    intro x q
    induction q with
    | intro=>
     intro e
     induction e using Nat.strongRecOn with
     | _=>
      refine⟨_,λy h=>?_⟩;obtain⟨l,i,g,c⟩:=y
      cases h with
      | stage h=>exact d l h i (Jd.acc n i) g (sQ.wf.apply _) c
      | worker h a=>
       subst h
       exact k i a g (sQ.wf.apply _) c
      | _=>simp_all
 exactλ⟨s,T,x,e⟩=>f s T (Jd.acc n T) x (sQ.wf.apply _) e⟩
section
variable{γ:Type}(P:Program)(main:Bool)(R:γ->World->World->Prop)(D:γ->γ->World->World->Array Event->Prop)(Stop:γ->Goroutine->World->Prop)
def Wk:Tr->γ->Goroutine->World->Prop
 | .leaf,x,g,w=>∀a,R x w a->Stop x g a
 | .node f,x,g,w=>(∀a,R x w a->Stop x g a)\/(g.status=.running/\∀a,R x w a->∃e b d c,stepG P main g a=.go e b d/\D x c a b d/\Wk (f a) c e b)
end
section
variable{γ:Type}{P:Program}{main:Bool}{R:γ->World->World->Prop}{D:γ->γ->World->World->Array Event->Prop}{Stop:γ->Goroutine->World->Prop}
theorem Wk.stop{T:Tr}{x:γ}(h:∀a,R x w a->Stop x g a):Wk P main R D Stop T x g w:=by
 cases T with
 | leaf=>exact h
 | node=>exact .inl h
theorem Wk.rely(j:∀x a b c,R x a b->R x b c->R x a c){T:Tr}{x:γ}{g:iY}{w i:aB}(h:Wk P main R D Stop T x g w)(k:R x w i):Wk P main R D Stop T x g i:=by
 cases T with
 | leaf=>exactλd e=>h d<|j _ _ _ _ k e
 | node=>
  obtain h|⟨l,h⟩:=h
  exact .inl λd e=>h d<|j _ _ _ _ k e
  exact .inr ⟨l,λd e=>h d<|j _ _ _ _ k e⟩
theorem Wk.running(a:∀x g w,Stop x g w->g.status=.running){T:Tr}{x:γ}(b:R x w w)(h:Wk P main R D Stop T x g w):g.status=.running:=by
 cases T with
 | leaf=>exact a _ _ _<|h w b
 | node=>exact h.elim fU (·.1)
theorem Wk.cases{T:Tr}{x:γ}(h:Wk P main R D Stop T x g w):
 (∀a,R x w a->Stop x g a)\/∀a,R x w a->∃T' g' w' es b,sQ T' T/\stepG P main g a=.go g' w' es/\D x b a w' es/\Wk P main R D Stop T' b g' w':=by
 cases T with
 | leaf=>exact .inl h
 | node f=>refine h.imp id λh a d=>?_;let⟨g',w',es,b,c,i,e⟩:=h.2 a d;exact⟨f a,g',w',es,b,.mk f a,c,i,e⟩
theorem Wk.step{x:γ}(i:g.status=.running)(h:∀a,R x w a->∃g' w' es c T,stepG P main g a=.go g' w' es/\D x c a w' es/\Wk P main R D Stop T c g' w'):∃T,Wk P main R D Stop T x g w:=by
 classical
 have:∀a,∃T,R x w a->∃g' w' es c,stepG P _ g a=.go g' w' es/\D x c a _ _/\Wk P _ R D _ T c _ _:=λa=>by
  by_cases e:R x w a
  let⟨g',w',es,c,T,f⟩:=h a e;exact⟨T,λ_=>⟨g',w',es,c,f⟩⟩
  exact⟨.leaf,λh=>absurd h e⟩
 refine⟨.node _,.inr ⟨i,λa e=>.choose_spec (this a) e⟩⟩
theorem Wk.bind{d:γ->Goroutine->World->Prop}(i:∀x w,R x w w)(v:∀x a b c,R x a b->R x b c->R x a c){T:Tr}:∀{x:γ}{g:iY}{w:aB},Wk P main R D Stop T x g w->
 (∀x g w,Stop x g w->∃T',Wk P main R D d T' x g w)->∃T',Wk P main R D d T' x g w:=by
 induction T with
 | leaf=>exactλh k=>k _ _ _ (h _<|i _ _)
 | node f l=>
  intro x g w h k;obtain h|⟨t,h⟩:=h
  exact k _ _ _ (h _<|i _ _)
  refine Wk.step t λe p=>?_;let⟨s,n,u,r,m,q,o⟩:=h e p;let⟨T',j⟩:=l e o k;exact⟨s,n,u,r,T',m,q,j⟩
theorem Wk.sH{j:World->World->Prop}{D0:World->World->Array Event->Prop}{b:Goroutine->World->Prop}(x:γ)(c:∀w w',R x w w'->j w w')(d:∀w w' es,D0 w w' es->D x x w w' es)(i:∀g w,b g w->Stop x g w):
 ∀{n:Nat}{g:iY}{w:aB},Goes P main j D0 b n g w->∃T,Wk P main R D Stop T x g w
 | 0,g,w,h=>⟨.leaf,λa f=>i _ _ (h a<|c _ _ f)⟩
 | n+1,g,w,h=>by
  obtain h|⟨m,h⟩:=h
  exact⟨.leaf,λa f=>i _ _ (h a<|c _ _ f)⟩
  refine Wk.step m λa f=>?_;let⟨p,w',es,e,o,l⟩:=goes_elim (h a<|c _ _ f);let⟨T,k⟩:=Wk.sH x c d i l;exact⟨p,w',es,x,T,e,d _ _ _ o,k⟩
end
section
variable(c:Nat)(Sh Old:Loc->Prop)(Own Rd:Nat->Loc->Prop)
structure Apart:Prop where
 own:∀i k l,Own i l->Own k l->i=k
 ownRd:∀i k l,Own i l->¬Rd k l
 ownSh:∀i l,Own i l->¬Sh l
 rdSh:∀i l,Rd i l->¬Sh l
 JR:∀i l,Own i l->¬Old l
 RF:∀i l,Rd i l->¬Old l
 A_:∀l,Sh l->¬Old l
structure CT(t:Trace)(j:Nat):Prop where
 quiet:Quiet Sh t
 own:∀i,i<j->∀l,Own i l->Perm t (c+i) l
 rd:∀i,i<j->∀l,Rd i l->PermW t (c+i) l
 free:∀l,¬Sh l->¬Old l->(∀i,i<j->¬Own i l/\¬Rd i l)->Perm t 0 l
 mine:∀l,¬Sh l->¬Old l->(∀i,i<j->¬Own i l)->PermW t 0 l
 nr:∀said,¬Race said t
 gs:∀(i:Nat)(op:MemOp),t[i]?=some op->op.g<c+j
def Ok0(j:Nat)(op:MemOp):Prop:=
 op.g=0/\∀x,op.act.touch?=some x->(Sh x.loc/\x.kind≠.plain)\/(¬Sh x.loc/\¬Old x.loc/\(∀i,i<j->¬Own i x.loc)/\(x.write=true->∀i,i<j->¬Rd i x.loc))
def OkW(i:Nat)(op:MemOp):Prop:=
 op.g=c+i/\∀x,op.act.touch?=some x->(Sh x.loc/\x.kind≠.plain/\x.kind≠.said)\/Own i x.loc\/(Rd i x.loc/\x.write=false)
end
section
variable{c:Nat}{Sh Old:Loc->Prop}{Own Rd:Nat->Loc->Prop}{t u:Trace}{j:Nat}
theorem CT.app0(o:0<c)(A:Apart Sh Old Own Rd)(h:CT c Sh Old Own Rd t j)(m:∀op∈u,Ok0 Sh Old Own Rd j op):CT c Sh Old Own Rd (t++u) j:=by
 refine⟨h.quiet.app λop d x G f=>?_,λi q l g=>(h.own i q l g).app λop d b s e=>?_,λi q l g=>(h.rd i q l g).app λop d b s e H=>?_,
  λl f n g=>(h.free l f n g).app λop d _ _ _=>(m op d).1,λl f n g=>(h.mine l f n g).app λop d _ _ _ _=>(m op d).1,λr=>?_,λi op F=>?_⟩
 obtain⟨_,B⟩|⟨p,_⟩:=(m op d).2 x G
 exact⟨B,λ_=>(m op d).1⟩
 trivial
 obtain⟨f,_⟩|⟨_,_,p,_⟩:=(m op d).2 b s
 exact absurd (e▸f)<|A.ownSh i l g
 grind
 obtain⟨f,_⟩|⟨_,_,_,p⟩:=(m op d).2 b s
 exact absurd (e▸f)<|A.rdSh i l g
 grind
 refine noRace_append (h.nr r) (λop d=>(m op d).1) (λi a D op d b s o=>?_);obtain⟨f,B⟩|⟨f,n,v,C⟩:=(m op d).2 b s
 exact h.quiet.known f B (λ_=>rfl) i a D o
 cases w:b.write with
 | true=>exact h.free _ f n fU i a D o.1
 | false=>exact h.mine _ f n v i a D o.1 (o.2.2.1.resolve_right<|by simp[w])
 obtain⟨_,y⟩|⟨_,z⟩:=getElem?_append_cases F
 exact h.gs i _ y
 rw[(m _ z).1];omega
theorem CT.appW(A:Apart Sh Old Own Rd)(h:CT c Sh Old Own Rd t j)(v:i<j)(o:∀op∈u,OkW c Sh Own Rd i op):CT c Sh Old Own Rd (t++u) j:=by
 refine⟨h.quiet.app λop d x H m=>?_,λq B l f=>(h.own q B l f).app λop d b p e=>?_,λq B l f=>(h.rd q B l f).app λop d b p e s=>?_,
  λl m g f=>(h.free l m g f).app λop d b p e=>?_,λl m g f=>(h.mine l m g f).app λop d b p e s=>?_,λw=>?_,λk op I=>?_⟩
 obtain⟨_,E,z⟩|g|⟨n,_⟩:=(o op d).2 x H
 exact⟨E,λe=>absurd e z⟩
 exact absurd m<|A.ownSh i _ g
 exact absurd m<|A.rdSh i _ n
 obtain⟨m,_⟩|g|⟨n,_⟩:=(o op d).2 b p
 exact absurd (e▸m)<|A.ownSh q l f
 rw[(o op d).1,A.own i q l (e▸g) f]
 exact absurd (e▸n)<|A.ownRd q i l f
 obtain⟨m,_⟩|g|⟨_,n⟩:=(o op d).2 b p
 exact absurd (e▸m)<|A.rdSh q l f
 exact absurd f (A.ownRd i q l<|e▸g)
 simp_all
 obtain⟨r,_⟩|g|⟨n,_⟩:=(o op d).2 b p
 exact absurd (e▸r) m
 exact absurd (e▸g) (f i v).1
 simp_all
 obtain⟨r,_⟩|g|⟨_,n⟩:=(o op d).2 b p
 exact absurd (e▸r) m
 exact absurd (e▸g)<|f i v
 grind
 refine noRace_append (h.nr w) (λop d=>(o op d).1) (λk a D op d b p y=>?_);obtain⟨m,E,z⟩|g|⟨n,F⟩:=(o op d).2 b p
 exact h.quiet.known m E (λe=>absurd e z) k a D y
 exact h.own i v _ g k a D y.1
 exact h.rd i v _ n k a D y.1 (y.2.2.1.resolve_right<|by simp[F])
 obtain⟨_,C⟩|⟨_,G⟩:=getElem?_append_cases I
 exact h.gs k op C
 rw[(o op G).1];omega
theorem CT.appMute(h:CT c Sh Old Own Rd t j){g:Nat}(z:g<c+j)(w:∀op∈u,op.g=g)(y:∀op∈u,op.act.touch?=none):CT c Sh Old Own Rd (t++u) j:=by
 have m:∀{op:MemOp}{b:Touch}{p:Prop},op∈u->op.act.touch?=some b->p:=λd f=>fU
 refine⟨h.quiet.app λop d x B o=>m d B,λi v l k=>(h.own i v l k).app λop d b f e=>m d f,λi v l k=>(h.rd i v l k).app λop d b f e D=>m d f,
  λl o s k=>(h.free l o s k).app λop d _ f _=>m d f,λl o s k=>(h.mine l o s k).app λop d _ f _ _=>m d f,λn=>?_,λi op A=>?_⟩
 exact noRace_append (h.nr n) w fU
 obtain⟨_,r⟩|⟨_,q⟩:=getElem?_append_cases A
 exact h.gs i _ r
 grind
theorem CT.grow{b:Nat->Loc->Prop}(h:CT c Sh Old Own Rd t j)(o:∀i l,Own i l->b i l)(q:∀i l,b i l->Own i l\/∀k a,touchAt t k=some a->a.loc≠l):CT c Sh Old b Rd t j:=by
 refine⟨h.quiet,λi f l d=>?_,h.rd,λl n g d=>h.free l n g λi f=>⟨λx=>(d i f).1<|o i l x,(d i f).2⟩,λl n g d=>h.mine l n g λi f x=>d i f<|o i l x,h.nr,h.gs⟩;obtain m|m:=q i l d
 exact h.own i f l m
 exactλk a p e=>absurd e<|m k a p
theorem CT.fork(P:0<c)(A:Apart Sh Old Own Rd)(h:CT c Sh Old Own Rd t j){x y:MemOp}(r:x.g=0/\x.act=.go (c+j))(B:y.g=c+j/\y.act=.start)(J:Deaf t 0=0):CT c Sh Old Own Rd (t++#[x,y]) (j+1):=by
 have K:Deaf t (c+j)=0:=Deaf_absent λi f D e=>by have:=h.gs i f D;omega
 have m:∀f∈#[x,y],∀b,f.act.touch?=some b->False:=by
  intro f d b g;simp[DF,bI,jG,or_false] at d;obtain rfl|rfl:=d
  rw[r.2] at g;cases g
  rw[B.2] at g;cases g
 have u:∀{i:Nat}{a:Touch},touchAt (t++#[x,y]) i=some a->touchAt t i=some a:=by
  intro i a q;let⟨z,N,s⟩:=touch_of q;obtain⟨_,E⟩|⟨_,F⟩:=getElem?_append_cases N
  rw[touchAt_of E];exact s
  exact(m z F a s).elim
 refine⟨h.quiet.app λf d b g _=>(m f d b g).elim,λk G l n=>?_,λk G l n=>?_,
  λl H o n=>(h.free l H o λk G=>n k<|aj).app λf d b g _=>(m f d b g).elim,λl H o n=>(h.mine l H o λk G=>n k<|aj).app λf d b g _ _=>(m f d b g).elim,λv=>?_,λi f D=>?_⟩
 obtain p|C:=bH k j
 exact(h.own k p l n).app λf d b g _=>(m f d b g).elim
 obtain rfl:k=j:=aj
 exactλi a q e=>fork_knows r B J K<|h.free l (A.ownSh _ l n) (A.JR _ l n) (λO M=>⟨λo=>by have:=A.own _ _ l o n;omega,A.ownRd _ _ l n⟩) i a (u q) e
 obtain p|C:=bH k j
 exact(h.rd k p l n).app λf d b g _ _=>(m f d b g).elim
 obtain rfl:k=j:=aj
 exactλi a q e L=>fork_knows r B J K<|h.mine l (A.rdSh _ l n) (A.RF _ l n) (λO _ o=>A.ownRd _ _ l o n) i a (u q) e L
 have e:t++#[x,y]=(t++#[x])++#[y]:=rfl
 rw[e];refine noRace_append (g:=c+j) (noRace_append (g:=0) (h.nr v) iL iL)
  iL iL
 obtain⟨_,I⟩|⟨_,w⟩:=getElem?_append_cases D
 have:=h.gs i f I;omega
 simp[DF,bI,jG,or_false] at w;obtain rfl|rfl:=w
 rw[r.1];omega
 omega
theorem yi{a:MemAct}{x:Touch}(h:a.low B)(b:a.touch?=some x):x.loc.low B:=by
 cases a with
 | access=>simp[MemAct.touch?,dO] at b;subst b;exact h
 | mark m=>cases m<;>simp[MemAct.touch?] at b<;>cases b<;>exact h
 | _=>trivial
theorem CT.init{b:Loc->Prop}(v:0<c)(h:Past b B t)(o:∀l,¬Old l->¬b l/\l.isMemory=true)(q:∀l,Sh l->¬l.low B)(s:∀(i:Nat)(op:MemOp),t[i]?=some op->op.g<c):CT c Sh Old Own Rd t 0:=by
 have m:∀l,¬Old l->∀i a,touchAt t i=some a->a.loc=l->Knows t 0 i:=λl n i a k e=>by
  obtain j|⟨j,_⟩:=h.known i a k fU
  exact j
  grind
 refine⟨λi op x f p r=>?_,λi u=>aj,λi u=>aj,λl _ g _=>m l g,λl _ g _ i a k e _=>m l g i a k e,h.clean,λi op f=>by have:=s i _ f;omega⟩;exfalso;apply q _ r;exact yi (h.seen _<|Array.mem_of_getElem? f) p
structure Rel(Wg:Nat)(t:Trace)(k r:Nat):Prop extends RelBy (Go.ConcR.stA Wg) t k r where
 only:∀i a,r<i->t.g? i=some k->touchAt t i=some a->ShN Wg a.loc/\a.kind=.atomic
theorem Rel.appNot{Wg:Nat}(h:Rel Wg t k r)(f:∀op∈u,op.g≠k):Rel Wg (t++u) k r:=by
 refine⟨h.toRelBy.appNot f,λi a l e j=>?_⟩;let⟨op,g,d⟩:=bC.1 e;obtain⟨b,_⟩|⟨_,c⟩:=getElem?_append_cases g
 exact h.only i a l (by rw[<-g?_old b];exact e)<|by rw[<-touchAt_old b];exact j
 grind
theorem Rel.new{Wg k:Nat}(f:Deaf t k=0)(fn:FuncId)(pos:String):Rel Wg (t++MemOp.ofEvents k fn pos #[Go.ConcR.mk (.releaseMerge (Go.ConcR.stA Wg))]) k t.size:=by refine⟨.new f fn _,λi a h d _=>?_⟩;let⟨g,c,_⟩:=bC.1 d;have:=lt_size_of_getElem? c;rw[ofEvents_eq] at this;simp at this;omega
theorem Rel.book{Wg d:Nat}(h:Rel Wg t k r)(n:Deaf t k=d)(fn:FuncId)(pos:String){es:Array Event}(f:∀e∈es,Go.ConcR.Bk Wg e)
 (w:∀j e,es[j]?=some e->(MemAct.ofEvent e).touch?=none\/0<deafBehind d (es.extract 0 j)):Rel Wg (t++MemOp.ofEvents k fn pos es) k r:=by
 refine⟨h.toRelBy.book n fn _ f w,λi a x p b=>?_⟩;let⟨z,o,v⟩:=bC.1 p;obtain⟨c,_⟩|⟨_,m⟩:=getElem?_append_cases o
 exact h.only i a x (by rw[<-g?_old c];exact p)<|by rw[<-touchAt_old c];exact b
 obtain⟨e,s,rfl⟩:=Go.Conc.mem_ofEvents m;rw[touchAt_of o] at b;obtain l|l|⟨q,y,rfl,u⟩:=f e s
 rw[Go.ConcR.ofEvent_loc_mark l] at b;cases b
 rw[Go.ConcR.ofEvent_loc_mark l] at b;cases b
 rw[Go.ConcR.ofEvent_cell] at b;simp[MemAct.touch?,dO] at b;subst b;exact⟨⟨q,rfl,u⟩,rfl⟩
end
theorem c3X{c j:Nat}{Sh M:Loc->Prop}{Own Rd:Nat->Loc->Prop}{Wg T:Nat}{o:Loc->Prop}{b u:Trace}(U:Past o B b)(hB:B<=T)(h:CT c Sh M Own Rd (b++u) j)
 (W:∀op∈u,op.g=0\/op.act.touch?=none\/∃i,i<j/\op.g=c+i)(Z:NoRelease (Go.ConcR.stA Wg) (b++u))(P:(b++u).act? q=some (.mark (.acquire (Go.ConcR.stA Wg))))(Y:(b++u).g? q=some 0)(hh:(b++u).heard q)
 (d:∀i,i<j->∃r,Rel Wg (b++u) (c+i) r/\r<q)(hd:Deaf (b++u) 0=0)(hl:∀op∈u,op.act.low T):Past (λl=>o l\/ShN Wg l) T (b++u):=by
 have n:∀i,i<j->∃r,Rel Wg (b++u) (c+i) r/\HappensBefore (b++u) r q:=λi E=>have⟨r,d,R⟩:=d i E;⟨r,d,.single<|.inr ⟨.marked R (.inr d.act) P (λk _ _=>Z k),d.heard,hh⟩⟩
 let⟨zq,hzq,N⟩:=bC.1 Y;refine⟨h.nr,λi a V hm=>?_,λi g t J hc=>?_,hd,seen_app (λop m=>MemAct.low_mono hB<|U.seen op m) hl⟩
 let⟨x,w,s⟩:=touch_of V;obtain⟨E,S⟩|⟨_,O⟩:=getElem?_append_cases w
 exact(U.known i a (by rw[touchAt_of S];exact s) hm).imp (·.app u) λy=>⟨.inl y.1,y.2⟩
 obtain f|f|⟨k,L,f⟩:=W x O
 have:=knows_own w;rw[f] at this;exact .inl this
 rw[f] at s;cases s
 let⟨r,d,F⟩:=n k L;have e:(b++u).g? i=some (c+k):=by simp[Trace.g?,w,f]
 obtain A|Q:=bH r i
 let⟨v,G⟩:=d.only i a A e V;exact .inr ⟨.inr v,G⟩
 refine .inl ⟨q,zq,hzq,N,.inr ?_⟩;obtain v|v:=bH i r
 exact .trans (.single<|.inl ⟨v,c+k,e,d.g⟩) F
 obtain rfl:i=r:=aj
 exact F
 let⟨x,w,D⟩:=hc;let⟨op,m,C⟩:=touch_of w;obtain⟨E,X⟩|⟨_,I⟩:=getElem?_append_cases m
 let⟨p,K,hb⟩:=U.over i g (by simpa [Trace.g?,getElem?_append_old E] using t) J<|(counts_old E).1 ⟨x,w,D⟩;exact⟨p,by simpa [Trace.g?,getElem?_append_old (let⟨z,hz,_⟩:=bC.1 K;lt_size_of_getElem? hz)] using K,hb_app u hb⟩
 have H:=by simpa [Trace.g?,m] using t
 obtain f|f|⟨k,L,f⟩:=W op I
 exact absurd (H.symm.trans f) J
 rw[f] at C;cases C
 let⟨r,d,F⟩:=n k L;have e:(b++u).g? i=some (c+k):=iL
 obtain A|Q:=bH r i
 exact absurd ⟨x,w,D⟩<|d.after i A e
 refine⟨q,Y,?_⟩;obtain v|v:=bH i r
 exact .trans (.single<|.inl ⟨v,c+k,e,d.g⟩) F
 obtain rfl:i=r:=aj
 exact F
end Go.Mc
namespace Go.Bi
variable{c:dU}{a:Addr}{B b i r:Nat}{v:aX}{α β:Type}{u w:aB}
section
structure Sit where
 ren:Nat->Nat
 D:Nat->Prop
 F:FuncId->Prop
 T:TypeId->Prop
 W:Nat->Prop
 K:Tmp->Value
 Kd:List Deferred
 Kk:CallKind
variable(S:Sit)
def rA(a:Addr):Addr:={a with block:=S.ren a.block}
@[simp] theorem sX (a:Addr):(rA S a).off=a.off:=rfl
@[simp] theorem c6j (a:Addr):(rA S a).spot=a.spot:=rfl
@[simp] theorem uA (a:Addr):(rA S a).block=S.ren a.block:=rfl
theorem Jh(a:Addr)(n:Nat):rA S (a.add n)=(rA S a).add n:=by unfold Addr.add;split<;>rfl
theorem add_block(a:Addr)(n:Nat):(a.add n).block=a.block:=YW
inductive FnR:Fn->Fn->Prop
 | func (f:FuncId) (h:S.F f):FnR (.func f) (.func f)
inductive VR:Value->Value->Prop
 | bool (b:Bool):VR (.bool b) (.bool b)
 | int (k:IntKind) (n:Int):VR (.int k n) (.int k n)
 | string (s:ByteArray):VR (.string s) (.string s)
 | kK:VR (.pointer none) (.pointer none)
 | ptr (a:Addr) (h:S.D a.block):VR (.pointer (some a)) (.pointer (some (rA S a)))
 | jv (n c:Nat):VR (.slice none n c) (.slice none n c)
 | slice (a:Addr) (n c:Nat) (h:S.D a.block):VR (.slice (some a) n c) (.slice (some (rA S a)) n c)
 | func (fn fn':Fn) (f f' c c':Array Value) (h:FnR S fn fn') (hf:f.size=f'.size) (hf':∀(i:Nat)(h1:i<f.size)(h2:i<f'.size),VR f[i] f'[i])
  (hc:c.size=c'.size)(hc':∀(i:Nat)(h1:i<c.size)(h2:i<c'.size),VR c[i] c'[i]):VR (.func fn f c) (.func fn' f' c')
 | iface (t:TypeId) (v v':Value) (ht:S.T t) (h:VR v v'):VR (.iface t v) (.iface t v')
 | nilIface:VR .nilIface .nilIface
 | agg (c c':Array Value) (hc:c.size=c'.size) (hc':∀(i:Nat)(h1:i<c.size)(h2:i<c'.size),VR c[i] c'[i]):VR (.agg c) (.agg c')
 | tuple (c c':Array Value) (hc:c.size=c'.size) (hc':∀(i:Nat)(h1:i<c.size)(h2:i<c'.size),VR c[i] c'[i]):VR (.tuple c) (.tuple c')
structure AR(c c':Array Value):Prop where
 size:c.size=c'.size
 at_:∀(i:Nat)(h1:i<c.size)(h2:i<c'.size),VR S c[i] c'[i]
section
variable{S}
theorem VR.agg'{a:dU}(h:AR S c a):VR S (.agg c) (.agg a):=.agg c a h.size h.at_
theorem VR.tuple'{a:dU}(h:AR S c a):VR S (.tuple c) (.tuple a):=.tuple c a h.size h.at_
theorem AR.get?{b:dU}(h:AR S c b)(i:Nat):(c[i]?=none/\b[i]?=none)\/∃v v',c[i]?=some v/\b[i]?=some v'/\VR S v v':=by
 by_cases a:i<c.size
 exact .inr ⟨c[i],b[i]'(h.size▸a),aZ,aZ,h.at_ i a _⟩
 exact .inl ⟨by simp[a],by simp[h.size▸a]⟩
theorem AR.sG{a:dU}(h:∀i:Nat,(c[i]?=none/\a[i]?=none)\/∃v v',c[i]?=some v/\a[i]?=some v'/\VR S v v'):AR S c a:=by
 refine⟨by
  obtain b|b|b:=Nat.lt_trichotomy c.size a.size
  obtain⟨_,e⟩|⟨v,v',e,_⟩:=h c.size
  grind
  grind
  exact b
  obtain⟨e,_⟩|⟨v,v',_,e,_⟩:=h a.size
  grind
  grind,λi b g=>?_⟩;obtain⟨e,_⟩|⟨v,v',e,d,j⟩:=h i
 grind
 grind
theorem AR.nil:AR S #[] #[]:=⟨rfl,λi h=>aZ⟩
theorem AR.push{a:dU}(h:AR S c a){v':aX}(b:VR S v v'):AR S (c.push v) (a.push v'):=by
 refine .sG λi=>?_;rw[fF,fF,h.size];split
 grind
 exact h.get? i
theorem AR.one{v':aX}(a:VR S v v'):AR S #[v] #[v']:=AR.nil.push a
theorem AR.append{a d b:dU}(h:AR S c a)(k:AR S d b):AR S (c++d) (a++b):=by
 refine .sG λi=>?_;rw[mD,mD,h.size];split
 exact h.get? i
 exact k.get? _
theorem AR.set{a:dU}(h:AR S c a)(i:Nat){v':aX}(b:VR S v v'):AR S (c.setIfInBounds i v) (a.setIfInBounds i v'):=by
 refine AR.sG λj=>?_;rw[gJ,gJ,h.size];split
 split
 grind
 simp
 exact h.get? j
theorem AR.replicate(n:Nat){v':aX}(a:VR S v v'):AR S (Array.replicate n v) (Array.replicate n v'):=
 ⟨aZ,λi b c=>fU⟩
theorem AR.getD{b:dU}(h:AR S c b)(i:Nat){v':aX}(f:VR S v v'):VR S (c.getD i v) (b.getD i v'):=by
 rw[aV,aV];obtain⟨e,a⟩|⟨x,g,e,a,d⟩:=h.get? i
 grind
 grind
end
inductive LR{α β:Type}(R:α->β->Prop):List α->List β->Prop
 | nil:LR R [] []
 | cons {a:α} {b:β} {l:List α} {k:List β} (h:R a b) (t:LR R l k):LR R (a::l) (b::k)
def qt(fr' fr:Nat×Nat):Prop:=∀i,fr'.1<=i->i<fr'.2->fr.1<=i/\i<fr.2
theorem qt.refl(fr:Nat×Nat):qt fr fr:=λ_ h k=>⟨h,k⟩
inductive zZ:Obj->Obj->Prop
 | cells (c c':Array Value) (e:TypeId) (fr fr':Nat×Nat) (h:AR S c c') (hf:qt fr' fr):zZ (.cells c e fr) (.cells c' e fr')
 | number (a:Addr) (lost:Bool) (h:S.D a.block):zZ (.number a lost) (.number (rA S a) lost)
def iG:Mark->Prop
 | .extern _=>True
 | .noRoom=>True
 | _=>False
def Hs(P:Program){α:Type}:Sem α->Prop
 | .halt _=>True
 | .pure _=>False
 | .load _ _ k=>∀v,Hs P (k v)
 | .store _ _ _ k=>Hs P k
 | .new _ k=>∀r,Hs P (k r)
 | .shape _ k=>∀s,Hs P (k s)
 | .freeze _ _ k=>Hs P k
 | .frozen _ k=>∀b,Hs P (k b)
 | .getObj _ k=>∀o,Hs P (k o)
 | .setObj _ _ k=>Hs P k
 | .choose _ k=>∀n,Hs P (k n)
 | .sys _ k=>∀r,Hs P (k r)
 | .program k=>Hs P (k P)
 | .mark _ k=>Hs P k
theorem Hs.bind{P:Program}{α β:Type}{s:Sem α}{f:α->Sem β}(h:Hs P s):Hs P (s >>= f):=by
 induction s with
 | load _ _ k a=>exactλv=>a v (h v)
 | store _ _ _ k a=>exact a h
 | new _ k a=>exactλv=>a v (h v)
 | shape _ k a=>exactλv=>a v (h v)
 | freeze _ _ k a=>exact a h
 | frozen _ k a=>exactλv=>a v (h v)
 | getObj _ k a=>exactλv=>a v (h v)
 | setObj _ _ k a=>exact a h
 | choose _ k a=>exactλv=>a v (h v)
 | sys _ k a=>exactλv=>a v (h v)
 | program k a=>exact a _ h
 | mark _ k a=>exact a h
 | _=>trivial
theorem Hs.behind{P:Program}(s:Sem α){f:α->Sem β}(h:∀a,Hs P (f a)):Hs P (s >>= f):=by
 induction s with
 | pure a=>exact h a
 | store _ _ _ k b=>exact b
 | freeze _ _ k b=>exact b
 | setObj _ _ k b=>exact b
 | program k b=>exact b _
 | mark _ k b=>exact b
 | _=>trivial
theorem Hs.run{P:Program}{s:Sem α}(h:Hs P s){a:α}:s.run P w≠.ok a u:=by
 induction s generalizing w with
 | halt _=>exactλe=>by cases e
 | pure _=>exact h.elim
 | load m a k b=>
  intro e;simp only[Sem.run] at e;split at e
  ·exact b _ (h _) e
  ·split at e
   ·exact b _ (h _) e
   ·cases e
 | store m x v k b=>
  intro e;have d:(Sem.store m x v k).run P w=.halt (.stuck "store: not the value of one cell") w\/(Sem.store m x v k).run P w=match w.cell? x with|some _=>if w.frozen? x then .halt (.unsupported (.unsafePointer "a write to bytes that a string shares")) w else k.run P (w.setCell x v)|none=>match w.farStore P x v (m==.atomic) with|.ok (w,_)=>k.run P w|.error h=>.halt h w:=by cases v<;>first|exact .inl rfl|exact .inr rfl
  rcases d with d|d
  ·rw[d] at e;cases e
  rw[d] at e;split at e
  ·split at e
   ·cases e
   ·exact b h (w:=w.setCell x v) e
  ·split at e
   ·exact b h e
   ·cases e
 | new o k b=>exactλe=>b _ (h _) (w:={w with heap:=w.heap.push o}) e
 | shape r k b=>exactλe=>b _ (h _) e
 | freeze x n k b=>exactλe=>b h (w:=w.freeze x n) e
 | frozen a k b=>exactλe=>b _ (h _) e
 | getObj r k b=>
  intro e;simp only[Sem.run] at e;split at e
  ·cases e
  ·exact b _ (h _) e
  ·cases e
 | setObj r o k b=>
  intro e;simp only[Sem.run] at e;split at e
  ·cases e
  ·exact b h (w:={w with heap:=w.heap.setIfInBounds r o}) e
  ·cases e
 | choose q k b=>
  intro e;simp only[Sem.run] at e;split at e
  ·exact b _ (h _) e
  ·exact b _ (h _) (w:={w with drawn:=w.drawn+1}) e
 | sys c k b=>exactλe=>b _ (h _) (w:=(w.sys c).2) e
 | program k b=>exactλe=>b _ h e
 | mark m k b=>exactλe=>b h e
def Im(P:Program){α β:Type}(R:α->β->Prop):Sem α->Sem β->Prop
 | .halt _,_=>True
 | .pure a,.pure b=>R a b
 | .load m a k,.load d g c=>m=.plain/\d=.plain/\S.D a.block/\g=rA S a/\∀v e,VR S v e->Im P R (k v) (c e)
 | .store m a v k,.store d g e c=>m=.plain/\d=.plain/\S.D a.block/\g=rA S a/\VR S v e/\Im P R k c
 | .new o k,.new h c=>zZ S o h/\∀r,S.D r->Im P R (k r) (c (S.ren r))
 | .shape r k,i=>(∀s,Hs P (k s))\/(match i with|.shape f c=>S.D r/\f=S.ren r/\∀s,Im P R (k s) (c s)|_=>False)
 | .getObj r k,.getObj f c=>S.D r/\f=S.ren r/\∀a l,S.D a.block->Im P R (k (.number a l)) (c (.number (rA S a) l))
 | .choose q k,.choose j c=>j=q/\∀n,Im P R (k n) (c n)
 | .program k,.program c=>Im P R (k P) (c P)
 | .mark m k,.mark d c=>d=m/\iG m/\Im P R k c
 | _,_=>False
section
variable{S}{P:Program}
theorem Im.halt{R:α->β->Prop}(x:Halt)(s:Sem β):Im S P R (.halt x) s:=qc
theorem Im.qE{R:α->β->Prop}{k:Option (TypeId×Nat)->Sem α}{s':Sem β}(h:Im S P R (.shape r k) s'):(∀s,Hs P (k s))\/∃k',s'=.shape (S.ren r) k'/\S.D r/\∀s,Im S P R (k s) (k' s):=by cases s'<;>obtain h|h:=h<;>first|simp_all
theorem Im.um{R:α->β->Prop}{k:Option (TypeId×Nat)->Sem α}{s':Sem β}(h:∀s,Hs P (k s)):Im S P R (.shape r k) s':=by cases s'<;>exact .inl h
theorem Im.bind{α d β e:Type}{R:α->d->Prop}{Q:β->e->Prop}{s:Sem α}{s':Sem d}{f:α->Sem β}{g:d->Sem e}(h:Im S P R s s')(p:∀a a',R a a'->Im S P Q (f a) (g a')):
 Im S P Q (s >>= f) (s' >>= g):=by
 induction s generalizing s' with
 | getObj r k b=>cases s'<;>first|exact h.elim|exact⟨h.1,h.2.1,λa l u=>b _ (h.2.2 a l u)⟩
 | pure a=>cases s'<;>first|exact p _ _ h|exact h.elim
 | load m a k b=>cases s'<;>first|exact h.elim|exact⟨h.1,h.2.1,h.2.2.1,h.2.2.2.1,λv i w=>b v (h.2.2.2.2 v i w)⟩
 | store m a v k b=>cases s'<;>first|exact h.elim|exact⟨h.1,h.2.1,h.2.2.1,h.2.2.2.1,h.2.2.2.2.1,b h.2.2.2.2.2⟩
 | new o k b=>cases s'<;>first|exact h.elim|exact⟨h.1,λr t=>b r (h.2 r t)⟩
 | shape r k b=>
  obtain h|⟨x,rfl,j,h⟩:=h.qE
  exact Im.um λs=>Hs.bind (h s)
  exact .inr ⟨j,rfl,λs=>b s (h s)⟩
 | choose q k b=>cases s'<;>first|trivial|exact⟨h.1,λn=>b n (h.2 n)⟩
 | program k b=>cases s'<;>first|trivial|exact b P h
 | mark m k b=>cases s'<;>first|trivial|exact⟨h.1,h.2.1,b h.2.2⟩
 | _=>trivial
abbrev dG:=@Im.bind
theorem Im.pure{α β:Type}{R:α->β->Prop}{a:α}{b:β}(h:R a b):Im S P R (Pure.pure a) (Pure.pure b):=h
abbrev fA:=@Im.pure
end
structure WR(w w':World):Prop where
 inj:∀a b,S.D a->S.D b->S.ren a=S.ren b->a=b
 fresh:∀b,w.heap.size<=b->S.D b->w'.heap.size<=S.ren b
 obj:∀b,S.D b->b<w.heap.size->∃o o',w.heap[b]?=some o/\w'.heap[S.ren b]?=some o'/\zZ S o o'
 ro:∀b c e fr,S.D b->¬S.W b->w.heap[b]?=some (.cells c e fr)->∀i,i<c.size->fr.1<=i/\i<fr.2
section
variable{S}
theorem lt_of_some{l:Array α}{o:α}(h:l[i]?=some o):i<l.size:=by grind
theorem WR.get{w':aB}(h:WR S w w')(g:S.D b){o:Obj}(c:w.heap[b]?=some o):∃a,w'.heap[S.ren b]?=some a/\zZ S o a:=by let⟨x,a,e,f,d⟩:=h.obj b g (lt_of_some c);grind
theorem WR.cell{w':aB}(h:WR S w w')(m:S.D a.block)(b:w.cell? a=some v):∃v',w'.cell? (rA S a)=some v'/\VR S v v':=by
 unfold World.cell? at b⊢
 cases d:w.heap[a.block]? with
 | none=>grind
 | some=>
  let⟨i,r,g⟩:=h.get m d;rw[d] at b;rw[show w'.heap[(rA S a).block]?=some i from r]
  cases g with
  | number=>cases b
  | cells c j e s l q=>
   dsimp at b;show ∃v',(if a.spot.isSome=true then none else j[a.off]?)=some _/\VR S v _;split at b
   cases b
   obtain⟨f,_⟩|⟨x,p,f,n,g⟩:=q.get? a.off
   grind
   grind
theorem WR.far{w':aB}(h:WR S w w')(P:Program)(d:S.D a.block)(b:Bool):∃x,w.farLoad P a b=.error x:=by
 unfold World.farLoad
 cases c:w.heap[a.block]? with
 | none=>simp
 | some=>let⟨g,f,e⟩:=h.get d c;cases e<;>exact⟨_,rfl⟩
theorem WR.Gs{w':aB}(h:WR S w w')(P:Program)(e:S.D a.block)(v:aX)(b:Bool):∃x,w.farStore P a v b=.error x:=by
 unfold World.farStore
 cases c:w.heap[a.block]? with
 | none=>simp
 | some=>let⟨g,f,d⟩:=h.get e c;cases d<;>exact⟨_,rfl⟩
theorem WR.out{w':aB}(h:WR S w w')(c:S.D b)(a:w.heap[b]?=none):w'.heap[S.ren b]?=none:=by rw[Array.getElem?_eq_none_iff] at a⊢;exact h.fresh b a c
theorem WR.shape{w':aB}(h:WR S w w')(b:S.D r):w'.shape? (S.ren r)=w.shape? r:=by
 unfold World.shape?
 cases a:w.heap[r]? with
 | none=>rw[h.out b a]
 | some=>
  let⟨l,i,f⟩:=h.get b a;rw[i]
  cases f with
  | number=>rfl
  | cells c j e k d g=>simp[g.size]
theorem WR.thaw{w':aB}(h:WR S w w')(q:S.D a.block)(d:w.cell? a=some v)(g:w.frozen? a=false):w'.frozen? (rA S a)=false/\S.W a.block:=by
 unfold World.cell? at d;unfold World.frozen? at g⊢
 cases i:w.heap[a.block]? with
 | none=>grind
 | some=>
  let⟨B,y,s⟩:=h.get q i;rw[i] at d g;rw[uA,y]
  cases s with
  | number=>cases d
  | cells c A e t l z j=>
   let⟨p,n⟩:=l;dsimp only;refine⟨?_,bW λu=>?_⟩
   cases m:decide (p<=(rA S a).off)&&decide ((rA S a).off<n) with
   | false=>rfl
   | true=>simp[aI,sX] at m;have:=j _ (dJ m.1) (dJ m.2);grind
   have:=h.ro _ c e _ q u i a.off fU;grind
theorem WR.setCell{w':aB}(h:WR S w w')(n:S.D a.block)(A:S.W a.block){v':aX}(D:VR S v v'):WR S (w.setCell a v) (w'.setCell (rA S a) v'):=by
 have d:∀(w:aB)a v,(World.setCell w a v).heap.size=w.heap.size:=λw a v=>IU
 refine⟨h.inj,λb f n=>by rw[d];exact h.fresh b iL n,λb f g=>?_,λb c e o f s B=>?_⟩
 rw[d] at g;let⟨x,C,k,p,y⟩:=h.obj b f g;by_cases e:b=a.block
 subst e
 cases y with
 | number t l E=>exact⟨.number t l,.number _ l,by simp[World.setCell,bg,k],by simp[World.setCell,bg,p],.number _ _ E⟩
 | cells c r q o j u i=>
  refine⟨.cells (if a.spot.isSome then c else c.setIfInBounds a.off v) q o,.cells (if a.spot.isSome then r else r.setIfInBounds a.off v') q j,?_,?_,.cells _ _ _ _ _ ?_ i⟩
  simp[World.setCell,bg,k]
  simp[World.setCell,bg,p];rfl
  split
  exact u
  exact u.set _ D
 refine⟨x,C,?_,?_,y⟩
 simp[World.setCell,bg,dI e,k]
 have:¬S.ren _=S.ren b:=λF=>e (h.inj _ _ f n F.symm);simp[World.setCell,bg,this,p]
 have m:¬a.block=b:=λe=>s (e▸A);refine h.ro b c e o f s ?_;simpa [World.setCell,bg,m] using B
theorem WR.new{w w':aB}(h:WR S w w')(s:S.D w)(q:S.W w)(n:S.ren w.heap.size=w'){o f:Obj}(g:zZ S o f):WR S {w with heap:=w.heap.push o} {w' with heap:=w'.heap.push f}:=by
 refine⟨h.inj,λb d m=>?_,λb d i=>?_,λb c e p d k r=>?_⟩
 simp at d⊢;have u:=h.fresh b aj m;have:S.ren b≠w'.heap.size:=λe=>by have:=h.inj b _ m s (e.trans n.symm);omega
 omega
 simp at i;by_cases e:b=w
 grind
 let⟨x,t,j,l,g⟩:=h.obj b d aj;refine⟨x,t,?_,?_,g⟩
 rw[fF,if_neg e];exact j
 have:=lt_of_some l;rw[fF,if_neg aj];exact l
 have a:=r;rw[fF] at a;split at a
 grind
 exact h.ro b c e p d k a
theorem WR.draw{w':aB}(h:WR S w w')(d a:Nat):WR S {w with drawn:=d} {w' with drawn:=a}:=⟨h.inj,h.fresh,h.obj,h.ro⟩
end
def ku(B:Nat)(e:Event):Prop:=
 match e.loc with
 | .cell a=>e.sync=false/\(∃b,S.D b/\S.ren b=a.block/\(e.write=true->S.W b))/\a.block<B
 | .obj r=>e.sync=false/\(∃b,S.D b/\S.ren b=r)/\e.write=false/\r<B
 | .mark m=>iG m
 | _=>False
section
variable{S}{P:Program}
theorem ku.mono{a:Nat}(b:B<=a){e:Event}(h:ku S B e):ku S a e:=by unfold ku at *;grind
structure wU(w w' u u':World):Prop where
 size:w.heap.size<=u
 size':u'.heap.size=w'+(u.heap.size - w.heap.size)
 drawn:w.drawn<=u.drawn
 drawn':u'.drawn=w'.drawn+(u.drawn - w.drawn)
 tape:u.tape=w.tape
 tape':u'.tape=w'.tape
 os':u'.os=w'.os
 output':u'.output=w'.output
 old:∀b,b<w'.heap.size->(∀a,S.D a->S.W a->a<w.heap.size->S.ren a≠b)->u'.heap[b]?=w'.heap[b]?
theorem wU.refl(w w':aB):wU (S:=S) w w' w w':=⟨ak _,aj,ak _,aj,rfl,rfl,rfl,rfl,λ_ _ _=>rfl⟩
theorem wU.trans{w w' v v' u c:aB}(h:wU (S:=S) w w' v v')(k:wU (S:=S) v v' u c)(l:∀i,i<v.heap.size - w.heap.size->S.ren (w+i)=w'.heap.size+i):wU (S:=S) w w' u c:=by
 refine⟨ay h.size k.size,?_,ay h.drawn k.drawn,?_,k.tape.trans h.tape,k.tape'.trans h.tape',k.os'.trans h.os',k.output'.trans h.output',λb o f=>?_⟩
 have:=h.size;have:=k.size;have:=h.size';have:=k.size';omega
 have:=h.drawn;have:=k.drawn;have:=h.drawn';have:=k.drawn';omega
 refine(k.old b (by have:=h.size';omega) λa n j m e=>?_).trans (h.old b o f);by_cases g:a<w.heap.size
 grind
 have:=l (a - w.heap.size) aj;rw[show w.heap.size+(a - w.heap.size)=a by omega] at this;omega
def Runs{α β:Type}(R:α->β->Prop)(P:Program)(s':Sem β)(w w':aB)(a:α)(u:aB):Prop:=
 ∀c:Array Event,∃b f d,s'.runT P w' c=(.ok b f,c++d)/\R a b/\WR S u f/\wU (S:=S) w w' u f/\∀e∈d,ku S f e
theorem Runs.step{R:α->β->Prop}{s' f:Sem β}{w' v v':aB}{a:α}{e1:Array Event}(h:Runs (S:=S) R P f v v' a u)(p:∀es,s'.runT P w' es=f.runT P v' (es++e1))(k:wU (S:=S) w w' v v')
 (n:∀i,i<v.heap.size - w.heap.size->S.ren (w+i)=w'.heap.size+i)(o:∀e∈e1,ku S v' e):Runs (S:=S) R P s' w w' a u:=by
 intro es;let⟨b,j,d,l,q,m,g,r⟩:=h (es++e1);refine⟨b,j,e1++d,fU,q,m,k.trans g n,λe c=>?_⟩;obtain c|c:=dW.1 c
 exact(o e c).mono (by have:=g.size';omega)
 grind
theorem b9K(w:aB)(k:Ask α):w.drawn<=(w.ask k).2.drawn/\(w.ask k).2.tape=w.tape:=by
 induction k generalizing w with
 | done=>exact⟨ak _,rfl⟩
 | ask=>unfold Go.World.ask;grind
theorem b9L(w:aB)(c:Sys):w.drawn<=(w.sys c).2.drawn/\(w.sys c).2.tape=w.tape:=by have:=b9K w (Kernel.perform c w.os);unfold Go.World.sys;grind
theorem a94{P:Program}{w':aB}{k:Bool}{l:List Addr}(h:w.farStore P a v k=.ok (w',l)):w'.drawn=w.drawn/\w'.tape=w.tape:=by
 unfold World.farStore at h;split at h
 split at h
 rename_i g;injection h with h;subst h;rename_i p u _ _;unfold World.viewStore at g;by_cases m:(!tight P P.depth u)=true
 rw[if_pos m] at g;cases g
 rw[if_neg m] at g;obtain⟨⟨c,e,r,j,f,i⟩,-,b⟩:=Zn.bind_ok g;dsimp at b;split at b
 case h_2=>cases b
 rename_i bytes _;by_cases n:some bytes.length≠f.bytes?.map (·.length)
 rw[if_pos n] at b;cases b
 rw[if_neg n] at b;obtain⟨q,-,d⟩:=Zn.bind_ok b;injection d with d;injection d with d s;subst d;trivial
 trivial
 trivial
theorem A3{s:Sem α}{a:α}(b:s.run P w=.ok a u):w.drawn<=u.drawn/\u.tape=w.tape:=by
 induction s generalizing w with
 | halt x=>cases b
 | store m x v k d=>
  have f:(Sem.store m x v k).run P w=.halt (.stuck "store: not the value of one cell") w\/(Sem.store m x v k).run P w=match w.cell? x with|some _=>if w.frozen? x then .halt (.unsupported (.unsafePointer "a write to bytes that a string shares")) w else k.run P (w.setCell x v)|none=>match w.farStore P x v (m==.atomic) with|.ok (w,_)=>k.run P w|.error h=>.halt h w:=by cases v<;>first|exact .inl rfl|exact .inr rfl
  obtain f|f:=f
  simp_all
  rw[f] at b;split at b
  split at b
  cases b
  exact d (w:=w.setCell x v) b
  split at b
  rename_i i;have:=a94 i;have j:=d b;simp_all
  cases b
 | freeze x n k d=>
  have g:(w.freeze x n).drawn=w.drawn/\(w.freeze x n).tape=w.tape:=by unfold World.freeze;split<;>exact⟨rfl,rfl⟩
  have:=d b
  simp_all
 | sys c=>simp[Sem.run] at b;have i:=b9L w c;grind
 | _=>simp[Sem.run] at b;grind[World.alloc,World.drew]
theorem uv{s:Sem α}{a:α}(d:s.run P w=.ok a u):w.heap.size<=u.heap.size:=by have b:=Zn.runT_size P s w #[];rw[(Sem.runT_fst P s w _).trans d] at b;exact b
theorem Im.run{R:α->β->Prop}{s:Sem α}{s':Sem β}(h:Im S P R s s'){w':aB}{a:α}(hW:WR S w w')(hr:s.run P w=.ok a u)
 (hn:∀i,i<u.heap.size - w.heap.size->S.D (w+i)/\S.W (w+i)/\S.ren (w+i)=w'.heap.size+i)(ht:∀i q,i<u.drawn - w.drawn->w'.tape (w'.drawn+i) q=w.tape (w.drawn+i) q):
 Runs (S:=S) R P s' w w' a u:=by
 induction s generalizing s' w w' with
 | halt x=>cases hr
 | pure x=>
  cases s' with
  | pure y=>
   injection hr with e1 e2;subst e1;subst e2
   exactλes=>⟨y,w',#[],YU,h,hW,wU.refl _ _,aZ⟩
  | _=>exact h.elim
 | load m x k ih=>
  cases s' with
  | load m' x' k'=>
   obtain⟨rfl,rfl,hD,rfl,hk⟩:=h
   cases hc:w.cell? x with
   | none=>
    obtain⟨y,hy⟩:=hW.far P hD (Mode.plain==Mode.atomic)
    simp only[Sem.run,hc,hy] at hr;cases hr
   | some v=>
    obtain⟨v',hc',hv⟩:=hW.cell hD hc;have hlt:(rA S x).block<w'.heap.size:=by
     rcases bH (rA S x).block w' with h|h
     ·exact h
     ·unfold World.cell? at hc';rw[h_ h] at hc';cases hc'
    simp only[Sem.run,hc] at hr;refine(ih v (hk v v' hv) hW hr hn ht).step (e1:=#[⟨.cell (rA S x),false,false⟩]) (λes=>?_) (wU.refl _ _) (λi hi=>aj) ?_
    ·simp only[Sem.runT,hc'];rw[gu];rfl
    ·intro e he;simp at he;subst he;exact⟨rfl,⟨_,hD,rfl,aZ⟩,hlt⟩
  | _=>exact h.elim
 | store m x v k ih=>
  cases s' with
  | store m' x' v' k'=>
   obtain⟨rfl,rfl,hD,rfl,hv,hk⟩:=h;have hva:(∀c,v≠.agg c)/\(∀c,v≠.tuple c):=by refine⟨λc e=>?_,λc e=>?_⟩<;>(subst e;simp only[Sem.run] at hr;cases hr)
   have Tq:(∀c,v'≠.agg c)/\(∀c,v'≠.tuple c):=by
    refine⟨λc e=>?_,λc e=>?_⟩<;>subst e<;>cases hv
    ·exact hva.1 _ rfl
    ·exact hva.2 _ rfl
   have e1:(Sem.store Mode.plain x v k).run P w=match w.cell? x with|some _=>if w.frozen? x then .halt (.unsupported (.unsafePointer "a write to bytes that a string shares")) w else k.run P (w.setCell x v)|none=>match w.farStore P x v (Mode.plain==.atomic) with|.ok (w,_)=>k.run P w|.error h=>.halt h w:=by cases v<;>first|rfl|exact absurd rfl (hva.1 _)|exact absurd rfl (hva.2 _)
   have e2:∀es,(Sem.store Mode.plain (rA S x) v' k').runT P w' es=match w'.cell? (rA S x) with|some _=>if w'.frozen? (rA S x) then(.halt (.unsupported (.unsafePointer "a write to bytes that a string shares")) w',es) else k'.runT P (w'.setCell (rA S x) v') (es.push ⟨.cell (rA S x),true,false⟩)|none=>match w'.farStore P (rA S x) v' (Mode.plain==.atomic) with|.ok (w,touched)=>k'.runT P w (es++touched.toArray.map (⟨.cell ·,true,Mode.plain==.atomic⟩))|.error h=>(.halt h w',es):=by intro es;cases v'<;>first|rfl|exact absurd rfl (Tq.1 _)|exact absurd rfl (Tq.2 _)
   rw[e1] at hr
   cases hc:w.cell? x with
   | none=>
    obtain⟨y,hy⟩:=hW.Gs P hD v (Mode.plain==Mode.atomic)
    simp only[hc,hy] at hr;cases hr
   | some y=>
    obtain⟨y',hc',_⟩:=hW.cell hD hc;have hlt:(rA S x).block<w'.heap.size:=by
     rcases bH (rA S x).block w' with h|h
     ·exact h
     ·unfold World.cell? at hc';rw[h_ h] at hc';cases hc'
    simp only[hc] at hr
    cases hf:w.frozen? x with
    | true=>rw[hf] at hr;cases hr
    | false=>
     obtain⟨hf',oo⟩:=hW.thaw hD hc hf;rw[hf] at hr;have hsz:(w.setCell x v).heap.size=w.heap.size:=IU
     have hsz':(w'.setCell (rA S x) v').heap.size=w'.heap.size:=IU
     refine(ih hk (hW.setCell hD oo hv) hr (by rw[hsz,hsz'];exact hn) ht).step (e1:=#[⟨.cell (rA S x),true,false⟩]) (λes=>?_) ?_ (λi hi=>aj) ?_
     ·rw[e2,hc'];simp only[hf'];rw[gu];rfl
     ·exact⟨aj,aj,ak _,by show w'.drawn=w'.drawn+(w.drawn - w.drawn);omega,rfl,rfl,rfl,rfl,λb hb hne=>by
       have:(rA S x).block≠b:=hne x.block hD oo (by
        unfold World.cell? at hc;rcases bH x.block w with h|h
        ·exact h
        ·rw[h_ h] at hc;cases hc)
       simp[World.setCell,bg];exactλe=>absurd e this⟩
     ·intro e he;simp at he;subst he;exact⟨rfl,⟨_,hD,rfl,λ_=>oo⟩,by rw[hsz'];exact hlt⟩
  | _=>exact h.elim
 | new o k ih=>
  cases s' with
  | new o' k'=>
   obtain⟨ho,hk⟩:=h;simp only[Sem.run] at hr;have k1:=uv hr;have k1':w.heap.size+1<=u.heap.size:=by simpa using k1
   obtain⟨hD,BZ,h0⟩:S.D w.heap.size/\S.W w.heap.size/\S.ren w.heap.size=w'.heap.size:=by simpa using hn 0 aj
   have hk0:=hk _ hD;rw[h0] at hk0;refine(ih _ hk0 (hW.new hD BZ h0 ho) hr (λi hi=>by simp only[jr] at hi⊢;have:=hn (i+1) aj;rw[show w.heap.size+(i+1)=w.heap.size+1+i by omega] at this;exact⟨this.1,this.2.1,by rw[this.2.2];omega⟩) ht).step (e1:=#[]) (λes=>YU) ?_ (λi hi=>?_) aZ
   ·refine⟨aZ,aZ,ak _,by show w'.drawn=w'.drawn+(w.drawn - w.drawn);omega,rfl,rfl,rfl,rfl,λb hb _=>?_⟩;show(w'.heap.push o')[b]?=_;rw[fF,if_neg aj]
   ·simp at hi;have:i=0:=aj
    subst this;simpa using h0
  | _=>exact h.elim
 | shape r k ih=>
  rcases h.qE with h|⟨k',rfl,hD,hk⟩
  ·exact absurd hr (Hs.run (h _))
  ·exact(ih _ (hk _) hW hr hn ht).step (e1:=#[]) (λes=>by simp[Sem.runT,hW.shape hD]) (wU.refl _ _) (λi hi=>aj) aZ
 | freeze x n k ih=>cases s'<;>exact h.elim
 | frozen x k ih=>cases s'<;>exact h.elim
 | getObj r k ih=>
  cases s' with
  | getObj r' k'=>
   obtain⟨hD,rfl,hk⟩:=h;simp only[Sem.run] at hr
   cases ho:w.heap[r]? with
   | none=>rw[ho] at hr;cases hr
   | some o=>
    obtain⟨o',ho',hx⟩:=hW.get hD ho;rw[ho] at hr
    cases hx with
    | cells=>cases hr
    | number a l ha=>
     refine(ih _ (hk a l ha) hW hr hn ht).step (e1:=#[⟨.obj (S.ren r),false,false⟩]) (λes=>?_) (wU.refl _ _) (λi hi=>aj) ?_
     ·simp only[Sem.runT,ho',gu];rfl
     ·intro e he;simp at he;subst he;exact⟨rfl,⟨_,hD,rfl⟩,rfl,lt_of_some ho'⟩
  | _=>exact h.elim
 | setObj r o k ih=>cases s'<;>exact h.elim
 | choose q k ih=>
  cases s' with
  | choose q' k'=>
   obtain⟨rfl,hk⟩:=h;simp only[Sem.run] at hr;by_cases hf:q'.forced=true
   ·rw[if_pos hf] at hr;exact(ih _ (hk _) hW hr hn ht).step (e1:=#[]) (λes=>by simp[Sem.runT,hf]) (wU.refl _ _) (λi hi=>aj) aZ
   ·rw[if_neg hf] at hr;have hd:w.drawn+1<=u.drawn:=(A3 hr).1;have h0:w'.tape w'.drawn q'=w.tape w.drawn q':=by simpa using ht 0 q' aj
    refine(ih _ (hk (q'.cut (w.tape w.drawn q'))) (hW.draw (w.drawn+1) (w'.drawn+1)) hr hn (λi q hi=>by have:=ht (i+1) q (by simp at hi;omega);simpa [jV,Nat.add_comm 1 i] using this)).step (e1:=#[]) (λes=>by simp[Sem.runT,hf,h0]) ?_ (λi hi=>by simp at hi) aZ
    exact⟨ak _,aZ,aZ,aZ,rfl,rfl,rfl,rfl,λ_ _ _=>rfl⟩
  | _=>exact h.elim
 | sys c k ih=>cases s'<;>exact h.elim
 | program k ih=>
  cases s' with
  | program k'=>exact(ih P h hW hr hn ht).step (e1:=#[]) (λes=>YU) (wU.refl _ _) (λi hi=>aj) aZ
  | _=>exact h.elim
 | mark m k ih=>
  cases s' with
  | mark m' k'=>
   obtain⟨rfl,hm,hk⟩:=h;refine(ih hk hW hr hn ht).step (e1:=#[⟨.mark m',false,true⟩]) (λes=>YU) (wU.refl _ _) (λi hi=>aj) ?_
   intro e he;simp at he;subst he;exact hm
  | _=>exact h.elim
end
end
end Go.Bi
