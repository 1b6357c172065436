/- A part of what the last file proves. -/
import Derived.Test.YtgpbhjjajpbeeaaGreatDoorO05
import Derived.Control
import Derived.Conc.CrowdStepC2
import Derived.Conc.Beside
set_option linter.all false
namespace Go.Zn
section
variable{P:Program}
def Nx(P:Program)(fr:Frame)(l:List Frame)(w:World)(fr':Frame)(l':List Frame)(w':World)(es:Array Event):Prop:=
 ∀κ cs,stepG P true (Gr fr l κ cs) w=.go (Gr fr' l' κ cs) w' es
inductive su(P:Program)(Z:Zone)(Sh:Nat->Prop)(X:Tmp->Prop)(A:Frame->World->Prop):Frame->List Frame->World->Prop
 | stop (fr:Frame) (w:World) (hI:Inv Z Sh X fr [] w) (τ:Nat->Question->Nat) (p:Nat) (h:A (ext fr K0) (tp w τ p)):su P Z Sh X A fr [] w
 | step (fr:Frame) (l:List Frame) (w:World) (hI:Inv Z Sh X fr l w) (F:(Nat->Question->Nat)->Nat->Frame) (L:(Nat->Question->Nat)->Nat->List Frame) (W:(Nat->Question->Nat)->Nat->World) (E:(Nat->Question->Nat)->Nat->Array Event)
  (h:∀τ p,Nx P fr l (tp w τ p) (F τ p) (L τ p) (W τ p) (E τ p))(hs:∀τ p,w.heap.size<=(W τ p).heap.size)
  (he:∀τ p,∀e∈E τ p,jd (Zf Z Sh (W τ p).heap.size) (W τ p).heap.size e)(k:∀τ p,su P Z Sh X A (F τ p) (L τ p) (W τ p)):su P Z Sh X A fr l w
theorem su.inv{Z:Zone}{Sh:Nat->Prop}{X:Tmp->Prop}{A:Frame->World->Prop}{fr:Frame}{l:List Frame}{w:World}(h:su P Z Sh X A fr l w):Inv Z Sh X fr l w:=by
 cases h<;>assumption
theorem su.of_next{Z:Zone}{Sh:Nat->Prop}{X:Tmp->Prop}{A:Frame->World->Prop}{fr:Frame}{l:List Frame}{w:World}(hI:Inv Z Sh X fr l w)
 (h:∀τ p,∃fr' l' w' es,Nx P fr l (tp w τ p) fr' l' w' es/\w.heap.size<=w'.heap.size/\(∀e∈es,jd (Zf Z Sh w'.heap.size) w'.heap.size e)/\su P Z Sh X A fr' l' w'):su P Z Sh X A fr l w:=by
 have h1:=λτ p=>fM (h τ p);have h2:=λτ p=>fM (h1 τ p);have h3:=λτ p=>fM (h2 τ p);have h4:=λτ p=>fM (h3 τ p);exact .step fr l w hI _ _ _ _ (λτ p=>(h4 τ p).1) (λτ p=>(h4 τ p).2.1) (λτ p=>(h4 τ p).2.2.1) (λτ p=>(h4 τ p).2.2.2)
def c0:Frame:={fn:=0,tmps:=#[],todo:=K0,defers:=[{target:=.nil,args:=#[]}],mode:=.run,kind:=.normal}
def uN(A:Frame->World->Prop)(m:Machine):Prop:=∃F w,m=lone F [c0] w/\A F w
def Dead(P:Program)(A:Frame->World->Prop)(m:Machine):Prop:=∀i m',runN P i m=.next m'->¬uN A m'
section
variable{A:Frame->World->Prop}
theorem Dead.uH{m:Machine}(h0:¬uN A m)(h:∀m',step P m=.next m'->Dead P A m'):Dead P A m:=by
 intro i m' hr
 cases i with
 | zero=>
  simp only[runN] at hr;injection hr with hr
  exact hr▸h0
 | succ i=>
  simp only[runN] at hr
  cases hs:step P m with
  | next m₁=>rw[hs] at hr;exact h m₁ hs i m' hr
  | ended o w=>rw[hs] at hr;cases hr
theorem EG{F F':Frame}{cs cs':List Frame}{w w':World}(h:lone F cs w=lone F' cs' w'):F=F'/\cs=cs'/\w=w':=by
 unfold lone at h;injection h with h1 h2 h3;simp only[Array.mk.injEq,fC,Goroutine.mk.injEq] at h2;exact⟨h2.1.1,h2.1.2.1,h1⟩
theorem Q5{F:Frame}{cs:List Frame}{w:World}(h0:¬uN A (lone F cs w)){s:GStep}(hs:stepG P true {frame:=F,callers:=cs,status:=.running,dying:=none} w=s)(h:Stops s):Dead P A (lone F cs w):=by
 cases s<;>first|exact(h:False).elim|skip
 rename_i o w' es;refine Dead.uH h0 λm' hm=>?_;rw[step_lone_ended (o:=o) (w':=w') (by rw[hs];rfl)] at hm;cases hm
theorem zu{F F':Frame}{cs cs':List Frame}{w w':World}{es:Array Event}(h0:¬uN A (lone F cs w))(hs:stepG P true {frame:=F,callers:=cs,status:=.running,dying:=none} w=.go {frame:=F',callers:=cs',status:=.running,dying:=none} w' es)
 (h:Dead P A (lone F' cs' w')):Dead P A (lone F cs w):=by
 refine Dead.uH h0 λm' hm=>?_;rw[step_lone_go (fr':=F') (cs':=cs') (w':=w') (by rw[hs];rfl)] at hm;injection hm with hm;exact hm▸h
variable(hA:∀F w,A F w->∀c,F.mode≠.panicking c)
include hA
theorem V7{F:Frame}{cs:List Frame}{w:World}{c:List PanicEntry}(h:F.mode=.panicking c):¬uN A (lone F cs w):=by
 rintro⟨F',w',e,ha⟩;obtain⟨rfl,-,-⟩:=EG e;exact hA _ _ ha c h
omit hA in
theorem UG{F:Frame}{w:World}:¬uN A (lone F [] w):=by
 rintro⟨F',w',e,ha⟩;obtain⟨-,h,-⟩:=EG e;cases h
omit hA in
theorem KI{F:Frame}{cs:List Frame}{w:World}{c:List PanicEntry}(h:F.mode=.panicking c):stepG P true {frame:=F,callers:=cs,status:=.running,dying:=none} w=unwind P true F cs none w:=by
 unfold stepG;dsimp only;rw[h]
omit hA in
theorem eD{w:World}{c:List PanicEntry}:Dead P A (lone (c0.raise c) [] w):=by
 refine Q5 UG (KI (c:=c) rfl) ?_;unfold unwind c0 Frame.raise;dsimp only;unfold callDeferred;dsimp only;exact trivial
variable{Z:Zone}{Sh:Nat->Prop}{X:Tmp->Prop}
theorem M8(l:List Frame)(hnext:∀(c:List PanicEntry)(w:World),Ce (Zf Z Sh w.heap.size) X l->jh Z Sh w->match (generalizing:=false) low l K0 [c0] with
 | []=>True
 | x::r=>Dead P A (lone (x.raise c) r w)) (hne:low l K0 [c0]≠[]):
 ∀(n:Nat)(fr:Frame)(w:World)(c:List PanicEntry),fr.defers.length=n->fr.mode=.panicking c->iK (Zf Z Sh w.heap.size) fr.defers->Ce (Zf Z Sh w.heap.size) X l->jh Z Sh w->
 Dead P A (lone (ext fr (kk l K0)) (low l K0 [c0]) w):=by
 intro n
 induction n with
 | zero=>
  intro fr w c hn hm hd hl hW;have hd0:fr.defers=[]:=VE.1 hn;have hst:=KI (P:=P) (F:=ext fr (kk l K0)) (cs:=low l K0 [c0]) (w:=w) (c:=c) hm;have hx:=hnext c w hl hW
  cases hlow:low l K0 [c0] with
  | nil=>exact absurd hlow hne
  | cons x r=>
   rw[hlow] at hst hx;by_cases hc:(ext fr (kk l K0)).catches P=true
   ·refine Q5 (V7 hA hm) hst ?_;unfold unwind;rw[show(ext fr (kk l K0)).defers=[] from hd0,show(ext fr (kk l K0)).mode=.panicking c from hm];dsimp only;rw[if_pos hc];trivial
   ·refine zu (V7 hA hm) (F':=x.raise c) (cs':=r) (w':=w) (es:=#[]) (hst.trans ?_) hx;unfold unwind;rw[show(ext fr (kk l K0)).defers=[] from hd0,show(ext fr (kk l K0)).mode=.panicking c from hm];dsimp only
    rw[if_neg hc]
 | succ n ih=>
  intro fr w c hn hm hd hl hW;have hst:=KI (P:=P) (F:=ext fr (kk l K0)) (cs:=low l K0 [c0]) (w:=w) (c:=c) hm
  cases hds:fr.defers with
  | nil=>rw[hds] at hn;cases hn
  | cons d ds=>
   obtain⟨r,rfl,hr⟩:=hd d (by rw[hds];simp);rcases both (λZ' hZ=>az (P:=P) (hZ.D _ hr)) hW with⟨v,u,es,k1,ha,hT,rfl,hW',hsz,hev⟩|⟨x,w',es,k1,ha,hT,hok,hsz,hW'⟩
   ·have e1:=hT w.tape w.drawn λ_ _ _=>rfl;rw[gJ] at e1;refine zu (V7 hA hm) (F':=ext {fr with defers:=ds} (kk l K0)) (cs':=low l K0 [c0]) (w':=tp u w.tape (w.drawn+k1)) (es:=seen P fr.fn es++#[]) (hst.trans ?_) (ih {fr with defers:=ds} _ c (by rw[hds] at hn;simpa using hn) hm (λd hd'=>?_) (hl.mono (iD hsz)) (hW'.tp _ _))
    ·unfold unwind;rw[show(ext fr (kk l K0)).defers=_ from hds];dsimp only;rw[e1];rfl
    ·exact iK.mono (iD hsz) hd d (by rw[hds];exact dR _ hd')
   ·have e1:=hT w.tape w.drawn λ_ _ _=>rfl;rw[gJ] at e1;refine Q5 (V7 hA hm) hst ?_;unfold unwind;rw[show(ext fr (kk l K0)).defers=_ from hds];dsimp only;rw[e1];trivial
theorem b55:∀(l:List Frame)(fr:Frame)(w:World)(c:List PanicEntry),fr.mode=.panicking c->iK (Zf Z Sh w.heap.size) fr.defers->Ce (Zf Z Sh w.heap.size) X l->jh Z Sh w->
 Dead P A (lone (ext fr (kk l K0)) (low l K0 [c0]) w):=by
 intro l
 induction l with
 | nil=>exactλfr w c hm hd hl hW=>M8 hA [] (λc w _ _=>eD) (by simp[low]) _ fr w c rfl hm hd hl hW
 | cons x l ih=>
  refineλfr w c hm hd hl hW=>M8 hA (x::l) (λc w hl hW=>?_) (by simp[low]) _ fr w c rfl hm hd hl hW;show Dead P A (lone ((ext x (kk l K0)).raise c) (low l K0 [c0]) w);rw[Hz];obtain⟨c',hc',hd'⟩:=raise_mode x c;exact ih _ w c' hc' (by rw[hd'];exact hl.1.1.1.defers) hl.2 hW
theorem b86{fr:Frame}{w:World}(hI:Inv Z Sh X fr [] w)(hs:Stop fr [])(hn:¬A (ext fr K0) w):Dead P A (lone (ext fr K0) [c0] w):=by
 have h0:¬uN A (lone (ext fr K0) [c0] w):=by
  rintro⟨F',w',e,ha⟩;obtain⟨rfl,-,rfl⟩:=EG e;exact hn ha
 have hk:=hI.fr.1.kind;have rH:∀(v:Value)(w:World),Dead P A (lone (c0.finish v) [] w):=λv w=>Q5 UG rfl (by
  unfold stepG c0 Frame.finish K0;dsimp only;unfold stepG.exec;trivial)
 rcases hs.2 with⟨hm,ht⟩|⟨hm,hd⟩
 ·refine Q5 h0 rfl ?_;obtain⟨fn,tmps,todo,defers,mode,kind,roundOf⟩:=fr;dsimp only at hm ht;subst hm ht;trivial
 ·have hst:stepG P true {frame:=ext fr K0,callers:=[c0],status:=.running,dying:=none} w=unwind P true (ext fr K0) [c0] none w:=by
   unfold stepG;dsimp only;rw[show(ext fr K0).mode=.returning from hm]
  have ed:(ext fr K0).defers=[]:=hd;have em:(ext fr K0).mode=.returning:=hm;have ek:(ext fr K0).kind=.normal:=hk
  cases hfn:P.funcs[fr.fn]? with
  | none=>
   refine zu h0 (hst.trans ?_) (rH ((ext fr K0).tmps.getD 0 undef) w) (es:=#[]);unfold unwind;rw[ed,em];dsimp only;rw[show(ext fr K0).fn=fr.fn from rfl,hfn];dsimp only;unfold doReturn
   rw[ek]
  | some fn=>
   cases hr:(results fn (ext fr K0).tmps).runT P w #[] with
   | mk r es=>
   cases r with
   | ok v u=>
    refine zu h0 (hst.trans ?_) (rH v u) (es:=seen P fr.fn es++#[]);unfold unwind;rw[ed,em];dsimp only;rw[show(ext fr K0).fn=fr.fn from rfl,hfn];dsimp only;rw[hr];dsimp only;unfold doReturn;rw[ek]
    rfl
   | halt x u=>
    refine Q5 h0 hst ?_;unfold unwind;rw[ed,em];dsimp only;rw[show(ext fr K0).fn=fr.fn from rfl,hfn];dsimp only;rw[hr];cases x<;>trivial
omit hA in
structure Bd(P:Program)(Z:Zone)(Sh:Nat->Prop)(X:Tmp->Prop)(A:Frame->World->Prop) where
 fr:Frame
 l:List Frame
 w:World
 hI:Inv Z Sh X fr l w
 no:¬su P Z Sh X A fr l w
omit hA in
def Bd.at{P:Program}(b:Bd P Z Sh X A)(τ:Nat->Question->Nat)(p:Nat):Machine:=lone (ext b.fr (kk b.l K0)) (low b.l K0 [c0]) (tp b.w τ p)
omit hA in
structure VB(P:Program)(Z:Zone)(Sh:Nat->Prop)(X:Tmp->Prop)(A:Frame->World->Prop) where
 τ:Nat->Question->Nat
 p:Nat
 k:Nat
 nx:Option (Bd P Z Sh X A)
omit hA in
def S_(P:Program)(b:Bd P Z Sh X A)(n:VB P Z Sh X A):Prop:=∀τ p,Agree (tp b.w n.τ n.p) n.k τ p->
 match n.nx with
 | some b'=>step P (b.at τ p)=.next (b'.at τ (p+n.k))
 | none=>Dead P A (b.at τ p)
omit hA in
theorem Bd.sZ{b:Bd P Z Sh X A}(τ:Nat->Question->Nat)(p:Nat):¬uN A (b.at τ p):=by
 rintro⟨F,w',e,ha⟩;obtain⟨rfl,e1,rfl⟩:=EG e;obtain⟨fr,l,w,hI,no⟩:=b
 cases l with
 | nil=>exact no (.stop fr w hI τ p ha)
 | cons x l=>
  have:=congrArg List.length e1;cases l<;>simp[low] at this
omit hA in
theorem Inv.tp{fr:Frame}{l:List Frame}{w:World}(h:Inv Z Sh X fr l w)(τ:Nat->Question->Nat)(p:Nat):Inv Z Sh X fr l (Zn.tp w τ p):=⟨h.fr,h.low,h.W.tp τ p⟩
theorem BY(hP:∀Z',Le Z Z'->qo Z' P)(b:Bd P Z Sh X A):∃n:VB P Z Sh X A,S_ P b n:=by
 obtain⟨fr,l,w,hI,no⟩:=b;by_cases hs:Stop fr l
 ·obtain rfl:l=[]:=hs.1;exact⟨⟨w.tape,w.drawn,0,none⟩,λτ p _=>b86 hA (hI.tp τ p) hs (Bd.sZ (b:=⟨fr,[],w,hI,no⟩) τ p <| ⟨_,_,rfl,·⟩)⟩
 have h1:∃τ p,∀fr' l' w' es,Nx P fr l (Zn.tp w τ p) fr' l' w' es->w.heap.size<=w'.heap.size->(∀e∈es,jd (Zf Z Sh w'.heap.size) w'.heap.size e)->¬su P Z Sh X A fr' l' w':=by
  refine dB λhc=>no (.of_next hI λτ p=>dB λhn=>hc ⟨τ,p,λfr' l' w' es hx hsz hev hg=>hn ⟨fr',l',w',es,hx,hsz,hev,hg⟩⟩)
 obtain⟨τ,p,h1⟩:=h1;have h0:∀τ' p',¬uN A (lone (ext fr (kk l K0)) (low l K0 [c0]) (Zn.tp w τ' p')):=λτ' p'=>Bd.sZ (b:=⟨fr,l,w,hI,no⟩) τ' p'
 cases Lt (P:=P) hP (hI.tp τ p) hs with
 | go fr' l' w' es k a h hI' hsz he=>
  have hg:¬su P Z Sh X A fr' l' w':=by
   refine h1 fr' l' w' es (λκ cs=>?_) hsz he;have:=h κ cs τ p λ_ _ _=>rfl;rw[nO] at this;rw[this];have e:Zn.tp w' τ (p+k)=w':=by
    have e1:w'.tape = τ:=a.tape;have e2:w'.drawn=p+k:=a.drawn;rw[<-e1,<-e2];rfl
   rw[e]
  exact⟨⟨τ,p,k,some ⟨fr',l',w',hI',hg⟩⟩,λτ' p' hA'=>step_lone_go (by
   have:=h K0 [c0] τ' p' hA';show(stepG P true (Gr fr l K0 [c0]) (Zn.tp w τ' p')).bare=_;rw[nO] at this;rw[this]
   rfl)⟩
 | bad fr' c w' es k a h hm hd hW hsz=>
  exact⟨⟨τ,p,k,none⟩,λτ' p' hA'=>zu (h0 τ' p') (by
   have:=h K0 [c0] τ' p' hA';rw[nO] at this
   exact this) (b55 hA l fr' (Zn.tp w' τ' (p'+k)) c hm hd (hI.low.mono (iD hsz)) (hW.tp _ _))⟩
 | stop k h=>
  exact⟨⟨τ,p,k,none⟩,λτ' p' hA'=>Q5 (h0 τ' p') rfl (by
   have:=h [c0] τ' p' hA';rw[nO] at this;exact this)⟩
section path
variable(f:Bd P Z Sh X A->VB P Z Sh X A)(b0:Bd P Z Sh X A)
def path:Nat->Option (Bd P Z Sh X A)×Nat
 | 0=>(some b0,0)
 | i+1=>match (path i).1 with
  | none=>(none,(path i).2)
  | some b=>((f b).nx,(path i).2+(f b).k)
omit hA in
theorem KB(i j:Nat)(h:i<=j):(path f b0 i).2<=(path f b0 j).2:=by
 induction j with
 | zero=>obtain rfl:i=0:=by omega
         exact aj _
 | succ j ih=>
  rcases aX i (j+1) with h1|h1
  ·refine ay (ih (by omega)) ?_
   have e:path f b0 (j+1)=match (path f b0 j).1 with
    | none=>(none,(path f b0 j).2)
    | some b=>((f b).nx,(path f b0 j).2+(f b).k):=rfl
   rw[e]
   cases(path f b0 j).1 with
   | none=>exact aj _
   | some b=>exact Nat.le_add_right _ _
  ·obtain rfl:i=j+1:=by omega
   exact aj _
open Classical in
noncomputable def star(j:Nat)(q:Question):Nat:=
 if h:∃i b,(path f b0 i).1=some b/\(path f b0 i).2<=j/\j<(path f b0 i).2+(f b).k then
  (f h.choose_spec.choose).τ ((f h.choose_spec.choose).p+(j - (path f b0 h.choose).2)) q
 else 0
omit hA in
theorem b56{i:Nat}{b:Bd P Z Sh X A}(hb:(path f b0 i).1=some b):Agree (Zn.tp b.w (f b).τ (f b).p) (f b).k (star f b0) (path f b0 i).2:=by
 intro j hj q;have hex:∃i' b',(path f b0 i').1=some b'/\(path f b0 i').2<=(path f b0 i).2+j/\(path f b0 i).2+j<(path f b0 i').2+(f b').k:=⟨i,b,hb,by omega,by omega⟩;unfold star;rw[dif_pos hex];obtain⟨hs1,hs2,hs3⟩:=hex.choose_spec.choose_spec;generalize hex.choose_spec.choose=b' at hs1 hs2 hs3⊢;generalize hex.choose=i' at hs1 hs2 hs3⊢;have hnext:∀(i:Nat)b,(path f b0 i).1=some b->(path f b0 (i+1)).2=(path f b0 i).2+(f b).k:=λi b h=>by
  conv=>lhs;unfold path
  rw[h]
 have hi:i'=i:=by
  rcases Nat.lt_trichotomy i' i with h|h|h
  ·have:=KB f b0 (i'+1) i (by omega);rw[hnext _ _ hs1] at this;omega
  ·exact h
  ·have:=KB f b0 (i+1) i' (by omega);rw[hnext _ _ hb] at this;omega
 subst hi;rw[hb] at hs1;obtain rfl:=aF hs1;show(f b).τ _ q=(f b).τ _ q;congr 1
 show(f b).p+_=(f b).p+j;omega
omit hA in
theorem b87(hf:∀b,S_ P b (f b))(i:Nat):(∃b,(path f b0 i).1=some b/\runN P i (b0.at (star f b0) 0)=.next (b.at (star f b0) (path f b0 i).2))\/(∃j b,j<i/\runN P j (b0.at (star f b0) 0)=.next (b.at (star f b0) (path f b0 j).2)/\Dead P A (b.at (star f b0) (path f b0 j).2)/\(path f b0 j).1=some b):=by
 induction i with
 | zero=>exact .inl ⟨b0,rfl,rfl⟩
 | succ i ih=>
  rcases ih with⟨b,hb,hr⟩|⟨j,b,hj,h⟩
  ·have hn:=hf b (star f b0) (path f b0 i).2 (b56 f b0 hb)
   cases hx:(f b).nx with
   | none=>
    rw[hx] at hn
    exact .inr ⟨i,b,by omega,hr,hn,hb⟩
   | some b'=>
    rw[hx] at hn;refine .inl ⟨b',?_,?_⟩
    ·conv=>lhs;unfold path
     rw[hb];exact hx
    ·rw[runN_add,hr];dsimp only;have:(path f b0 (i+1)).2=(path f b0 i).2+(f b).k:=by
      conv=>lhs;unfold path
      rw[hb]
     rw[this];dsimp only[runN];rw[hn]
  ·exact .inr ⟨j,b,by omega,h⟩
end path
theorem rC(hP:∀Z',Le Z Z'->qo Z' P){fr:Frame}{w:World}(hI:Inv Z Sh X fr [] w)(h:∀τ p,∃n m',runN P n (lone (ext fr K0) [c0] (Zn.tp w τ p))=.next m'/\uN A m'):su P Z Sh X A fr [] w:=by
 refine dB λno=>?_
 let b0:Bd P Z Sh X A:=⟨fr,[],w,hI,no⟩
 have hf0:∀b:Bd P Z Sh X A,S_ P b (Classical.choose (BY hA hP b)):=λb=>fM (BY hA hP b);obtain⟨f,hf⟩:∃f:Bd P Z Sh X A->VB P Z Sh X A,∀b,S_ P b (f b):=⟨_,hf0⟩;obtain⟨n,m',hr,ha⟩:=h (star f b0) 0;rcases b87 f b0 hf n with⟨b,hb,hr'⟩|⟨j,b,hj,hr',hd,-⟩
 ·have e:b.at (star f b0) (path f b0 n).2=m':=by
   have:runN P n (b0.at (star f b0) 0)=.next m':=hr;rw[hr'] at this;injection this
  exact Bd.sZ _ _ (e▸ha)
 ·obtain⟨k,rfl⟩:∃k,n=j+k:=⟨n - j,by omega⟩;have:runN P (j+k) (b0.at (star f b0) 0)=.next m':=hr;rw[runN_add,hr'] at this;exact hd k m' this ha
end
end
end Go.Zn
namespace Go.Nm
section
open Zn (fU dV ext kk low Gr K0 Stops wM wJ O3 Hz raise_mode KD Ib UU Uz UR Hy)
variable{P:Program}{D:kK}
def jy(D:kK):Code->Prop
 | .seq a b=>jy D a/\jy D b
 | .cond _ a b=>jy D a/\jy D b
 | .block _ b=>jy D b
 | .loop b=>jy D b
 | .scope b=>jy D b
 | .region _ ops _=>∀o∈ops,rW D o.op
 | .rangeFunc ..=>False
 | _=>True
inductive rU(D:kK):Item->Prop
 | code (c:Code) (h:jy D c):rU D (.code c)
 | inBlock (id:Nat):rU D (.inBlock id)
 | inLoop (c:Code) (h:jy D c):rU D (.inLoop c)
 | inScope (c:Code) (h:jy D c):rU D (.inScope c)
 | inRegion (ops:Array Oper) (l:List Nat) (h:∀o∈ops,rW D o.op):rU D (.inRegion ops l)
structure Dz(D:kK)(fr:Frame):Prop where
 todo:∀x∈fr.todo,rU D x
 defers:fr.defers=[]
 mode:fr.mode=.run\/fr.mode=.returning
 kind:fr.kind=.normal
 round:fr.roundOf=none
structure oL(D:kK)(fr:Frame)(l:List Frame):Prop where
 fr:Dz D fr
 low:∀x∈l,Dz D x/\x.mode=.run/\x.todo≠[]
structure ER(D:kK)(P:Program):Prop extends PN D P where
 early:∀g,P.globals.size<=g->P.stepOf g=none
 code:∀f fn c,D.F f->P.funcs[f]?=some fn->fn.body=some c->jy D c
inductive uo(D:kK)(l:List Frame)(w:World)(s:List Item->List Frame->GStep):Prop
 | go (fr':Frame) (l':List Frame) (w':World) (es:Array Event) (h:∀κ cs,s κ cs=.go (Gr fr' l' κ cs) w' es) (hI:oL D fr' l') (hr:Rows w w') (he:∀e∈es,qh w'.heap.size e):uo D l w s
 | bad (fr':Frame) (chain:List PanicEntry) (w':World) (es:Array Event) (h:∀κ cs,s κ cs=.go (Gr fr' l κ cs) w' es) (hm:fr'.mode=.panicking chain) (hd:fr'.defers=[]):uo D l w s
 | stop (h:∀cs,Stops (s K0 cs)):uo D l w s
theorem uo.congr{l:List Frame}{w:World}{s s':List Item->List Frame->GStep}(h:∀κ cs,s κ cs=s' κ cs)(k:uo D l w s'):uo D l w s:=by
 have:s=s':=by funext κ cs;exact h κ cs
 exact this▸k
theorem Dz.finish{fr:Frame}(h:Dz D fr)(v:Value):Dz D (fr.finish v)/\(fr.finish v).mode=fr.mode/\(fr.finish v).roundOf=fr.roundOf:=by
 obtain⟨fn,tmps,todo,defers,mode,kind,roundOf⟩:=fr;obtain⟨h3,h4,h5,h6,h7⟩:=h;dsimp only at h3 h4 h5 h6 h7;unfold Frame.finish
 cases todo with
 | nil=>exact⟨⟨h3,h4,h5,h6,h7⟩,rfl,rfl⟩
 | cons x k=>
  have hk:∀y∈k,rU D y:=λy hy=>h3 y (by simp[hy]);have hx:=h3 x (by simp)
  cases hx with
  | inRegion ops l h=>
   cases l with
   | nil=>exact⟨⟨h3,h4,h5,h6,h7⟩,rfl,rfl⟩
   | cons i rest=>
    refine⟨⟨λy hy=>?_,h4,h5,h6,h7⟩,rfl,rfl⟩;rcases aY.1 hy with rfl|hy
    ·exact .inRegion _ _ h
    ·exact hk y hy
  | _=>exact⟨⟨h3,h4,h5,h6,h7⟩,rfl,rfl⟩
theorem b8B(hP:ER D P){f:FuncId}(hf:D.F f)(args:Array Value):Dz D (Frame.enter P f args .normal):=by
 refine⟨λx hx=>?_,rfl,.inl rfl,rfl,rfl⟩;simp only[Frame.enter,fP] at hx;subst hx;refine .code _ ?_
 cases hfn:P.funcs[f]? with
 | none=>trivial
 | some fn=>
  cases hb:fn.body with
  | none=>simp only[eF,hb];trivial
  | some c=>simp only[eF,hb];exact hP.code f fn c hf hfn hb
theorem c1n{fr:Frame}(h:Dz D fr)(hne:fr.todo≠[]){κ:List Item}{d:Deferred}{b:Bool}{r:String}{s:Array Value}{k:List Item}(e:(ext fr κ).todo=.call d b r s::k):False:=by
 obtain⟨fn,tmps,todo,defers,mode,kind,roundOf⟩:=fr
 cases todo with
 | nil=>exact hne rfl
 | cons x t=>
  injection (show x::(t++κ)=_ from e) with e1;have:=h.todo x (by simp);rw[e1] at this;cases this
theorem QJ{n:Nat}{fn:FuncId}{es:Array Event}(h:∀e∈es,qh n e):∀e∈seen P fn es++#[],qh n e:=λe he=>by
 simp only[gQ] at he;exact h e (Go.Conc.mem_seen he)
theorem b8C(hP:ER D P){fr:Frame}{l:List Frame}{w:World}(hW:∀g,g<P.globals.size->jW w g)(hI:oL D fr l)(hm:fr.mode=.run)(hne:fr.todo≠[]){s:Sem Next}(hs:Nf P (GN D) s):
 uo D l w (λκ cs=>stepG.apply P true (ext fr (kk l κ)) (low l κ cs) none s w):=by
 have hk:∀κ,((ext fr κ).kind==CallKind.early)=false:=λκ=>by show(fr.kind==CallKind.early)=false;rw[hI.fr.kind];rfl
 have hsn:∀κ es,seen P (ext fr κ).fn es=seen P fr.fn es:=λ_ _=>rfl;obtain⟨⟨r,es⟩,hT⟩:∃x,s.runT P w #[]=x:=⟨_,rfl⟩;obtain⟨hr,hh⟩:=hs.run w #[];rw[hT] at hr hh
 cases r with
 | ok a u=>
  obtain⟨hn,hsz,hev⟩:=hs.low hT;replace hev:=hev (by simp)
  cases a with
  | value v=>
   refine .go (fr.finish v) l u (seen P fr.fn es++#[]) (λκ cs=>?_) ⟨(hI.fr.finish v).1,hI.low⟩ hr (QJ hev);unfold stepG.apply;simp only[if_true,hk,hsn,hT,O3 hne]
   rfl
  | skip=>
   refine .go (fr.finish undef) l u (seen P fr.fn es++#[]) (λκ cs=>?_) ⟨(hI.fr.finish undef).1,hI.low⟩ hr (QJ hev);unfold stepG.apply;simp only[if_true,hk,hsn,hT,O3 hne]
   rfl
  | enter f args=>
   refine .go (Frame.enter P f args .normal) (fr::l) u (seen P fr.fn es++#[]) (λκ cs=>?_) ⟨b8B hP hn args,λx hx=>?_⟩ hr (QJ hev)
   ·unfold stepG.apply;simp only[if_true,hk,hsn,hT];dsimp only[GStep.after];split
    ·rename_i e;exact(c1n hI.fr hne e).elim
    ·unfold Gr;show _=GStep.go {frame:=ext (Frame.enter P f args .normal) [],callers:=_,status:=_,dying:=_} _ _;rw[wM];rfl
   ·rcases aY.1 hx with rfl|hx
    ·exact⟨hI.fr,hm,hne⟩
    ·exact hI.low x hx
  | _=>exact hn.elim
 | halt x u=>
  rcases hh x u rfl with hok|⟨g,rfl,hg⟩
  ·cases x with
   | panic v=>
    obtain⟨c,hc,hd⟩:=raise_mode fr [{v,recovered:=false}];refine .bad (fr.raise [{v,recovered:=false}]) c u (seen P fr.fn es++#[]) (λκ cs=>?_) hc (hd.trans hI.fr.defers);unfold stepG.apply;simp only[if_true,hk,hsn,hT,Hz]
    rfl
   | stuck x=>
    refine .stop λcs=>?_;unfold stepG.apply;simp only[if_true,hk,hT]
    trivial
   | unsupported y=>
    refine .stop λcs=>?_;unfold stepG.apply;simp only[if_true,hk,hT]
    cases y<;>first|exact(hok:False).elim|trivial
   | _=>exact(hok:False).elim
  ·have hg':P.globals.size<=g:=by
    rcases aX g P.globals.size with h|h
    ·exact absurd (hr.2 g (hW g h)) hg
    ·exact h
   have hst:=hP.early g hg';by_cases hfo:P.follows .staticDataAhead=true
   ·refine .stop λcs=>?_;unfold stepG.apply;simp only[if_true,hk,hT];unfold early;simp only[hfo,hst];trivial
   ·cases hp:u.heap[g]? with
    | none=>
     refine .stop λcs=>?_;unfold stepG.apply;simp only[if_true,hk,hT];unfold early;simp only[hfo,hp]
     trivial
    | some o=>
     by_cases hpe:∃c e,o=.pending c e
     ·obtain⟨c,e,rfl⟩:=hpe;refine .go fr l {u with heap:=u.heap.setIfInBounds g (.cells c e)} (seen P fr.fn #[]++#[]) (λκ cs=>?_) hI (hr.trans (Da u hp λ_ _ _ h=>by cases h)) (QJ (by simp));unfold stepG.apply;simp only[if_true,hk,hsn,hT];unfold early;simp only[hfo,hp];rfl
     ·refine .stop λcs=>?_;unfold stepG.apply;simp only[if_true,hk,hT];unfold early;simp only[hfo,hp];cases o<;>first|trivial|exact absurd ⟨_,_,rfl⟩ hpe
end
section
open Zn (fU dV ext kk low Gr K0 Stops wM wJ O3 Hz raise_mode KD Ib UU Uz UR Hy Stop)
variable{P:Program}{D:kK}
theorem b5y(fn:Func)(tmps:Array Value):Mf P (results fn tmps):=by
 unfold results;refine l9 (zd _ _ λr=>?_) λvs=>?_
 ·split
  ·exact trivial
  ·exact l9 (QC) λa=>Ic _
 ·split<;>exact trivial
theorem uV{fr:Frame}{l:List Frame}{w:World}(hI:oL D fr l){k:List Item}(hk:∀x∈k,rU D x){s:List Item->List Frame->GStep}(h:∀κ cs,s κ cs=.go (Gr {fr with todo:=k} l κ cs) w #[]):uo D l w s:=
 .go {fr with todo:=k} l w #[] h ⟨⟨hk,hI.fr.defers,hI.fr.mode,hI.fr.kind,hI.fr.round⟩,hI.low⟩ (Rows.refl w) (by simp)
theorem yW{fr:Frame}{l:List Frame}{w:World}(hI:oL D fr l){s:List Item->List Frame->GStep}(h:∀κ cs,s κ cs=.go {frame:={ext fr (kk l κ) with mode:=.returning},callers:=low l κ cs,status:=.running,dying:=none} w #[]):uo D l w s:=
 .go {fr with mode:=.returning} l w #[] h ⟨⟨hI.fr.todo,hI.fr.defers,.inr rfl,hI.fr.kind,hI.fr.round⟩,hI.low⟩ (Rows.refl w) (by simp)
theorem b0m:∀{c:Code}{l:Nat}{r:Code},jy D c->findLabel c l=some r->jy D r:=by
 intro c
 induction c with
 | seq a b iha ihb=>
  intro l r h e;unfold findLabel at e;split at e
  ·rename_i rest e1;injection e with e;subst e;exact⟨iha h.1 e1,h.2⟩
  ·exact ihb h.2 e
 | label l'=>
  intro l r h e;unfold findLabel at e;split at e
  ·injection e with e;subst e;trivial
  ·cases e
 | _=>intro l r h e;cases e
theorem b5z{l:Nat}:∀{k k':List Item},(∀x∈k,rU D x)->gotoIn l k=some k'->∀x∈k',rU D x:=by
 intro k
 induction k with
 | nil=>intro k' _ h;cases h
 | cons y k ih=>
  intro k' hk h;have hk':∀x∈k,rU D x:=λx hx=>hk x (dR _ hx)
  cases y with
  | inScope body=>
   have hb:jy D body:=by have:=hk (.inScope body) iL;cases this;assumption
   unfold gotoIn at h;split at h
   ·rename_i rest e;injection h with h;subst h;intro x hx;rcases aY.1 hx with rfl|hx
    ·exact .code _ (b0m hb e)
    rcases aY.1 hx with rfl|hx
    ·exact .inScope _ hb
    ·exact hk' x hx
   ·exact ih hk' h
  | _=>exact ih hk' (show gotoIn l k=some k' from h)
theorem c1o(hP:ER D P){fr:Frame}{l:List Frame}{w:World}(hW:∀g,g<P.globals.size->jW w g)(hI:oL D fr l)(hm:fr.mode=.run)(hne:¬(l=[]/\fr.todo=[])):
 uo D l w (λκ cs=>stepG.exec P true true (ext fr (kk l κ)) (low l κ cs) none w):=by
 obtain⟨fn,tmps,todo,defers,mode,kind,roundOf⟩:=fr;dsimp only at hm hne;subst hm;have hf:=hI.fr;have hro:roundOf=none:=hf.round;subst hro
 cases todo with
 | nil=>
  cases l with
  | nil=>exact absurd ⟨rfl,rfl⟩ hne
  | cons c l=>exact yW hI λ_ _=>rfl
 | cons x k=>
  have hk:∀y∈k,rU D y:=λy hy=>hf.todo y (by simp[hy]);have hx:=hf.todo x (by simp);have c1:∀{a:Item},rU D a->∀y∈a::k,rU D y:=λha y hy=>by
   rcases aY.1 hy with rfl|hy
   ·exact ha
   ·exact hk y hy
  have c2:∀{a b:Item},rU D a->rU D b->∀y∈a::b::k,rU D y:=λha hb y hy=>by
   rcases aY.1 hy with rfl|hy
   ·exact ha
   ·exact c1 hb y hy
  cases hx with
  | inBlock id=>exact uV hI hk λ_ _=>rfl
  | inScope c h=>exact uV hI hk λ_ _=>rfl
  | inLoop c h=>exact uV hI (c2 (.code _ h) (.inLoop _ h)) λ_ _=>rfl
  | inRegion ops is h=>
   cases is with
   | nil=>exact uV hI hk λ_ _=>rfl
   | cons i rest=>
    by_cases hw:((ops[i]?).map (Region.wanted · (yielded ops tmps))).getD false=true
    ·cases ho:ops[i]? with
     | none=>rw[ho] at hw;cases hw
     | some o=>
      have hop:rW D o.op:=h o (Array.mem_of_getElem? ho);have main:=b8C hP hW hI rfl (by simp) (s:=execOp (Frame.eval ⟨fn,tmps,.inRegion ops (i::rest)::k,defers,.run,kind,none⟩) o) (b8z hP.toPN hop λf=>rfl);refine uo.congr (λκ cs=>?_) main;have e3:=wJ ⟨fn,tmps,.inRegion ops (i::rest)::k,defers,.run,kind,none⟩ (kk l κ);rw[<-e3];show stepG.exec P true true ⟨fn,tmps,.inRegion ops (i::rest)::(k++kk l κ),defers,.run,kind,none⟩ (low l κ cs) none w=_;unfold stepG.exec;dsimp only;rw[if_pos hw];unfold stepG.oper;simp only[show(Frame.oper? ⟨fn,tmps,.inRegion ops (i::rest)::(k++kk l κ),defers,.run,kind,none⟩)=some o from ho];rfl
    ·have hF:=hI.fr.finish undef;refine .go (Frame.finish ⟨fn,tmps,.inRegion ops (i::rest)::k,defers,.run,kind,none⟩ undef) l w #[] (λκ cs=>?_) ⟨hF.1,hI.low⟩ (Rows.refl w) (by simp);unfold Gr;rw[<-O3 (by simp)];show stepG.exec P true true ⟨fn,tmps,.inRegion ops (i::rest)::(k++kk l κ),defers,.run,kind,none⟩ (low l κ cs) none _=_;unfold stepG.exec;dsimp only;rw[if_neg hw]
     rfl
  | code c hc=>
   cases c with
   | skip=>exact uV hI hk λ_ _=>rfl
   | label _=>exact uV hI hk λ_ _=>rfl
   | seq a b=>exact uV hI (c2 (.code _ hc.1) (.code _ hc.2)) λ_ _=>rfl
   | cond c a b=>
    by_cases ht:∃t,Frame.eval ⟨fn,tmps,.code (.cond c a b)::k,defers,.run,kind,none⟩ c=.bool t
    ·obtain⟨t,ht⟩:=ht;refine uV hI (k:=.code (if t then a else b)::k) (c1 (.code _ ?_)) λκ cs=>?_
     ·split
      ·exact hc.1
      ·exact hc.2
     ·rw[<-wJ _ (kk l κ)] at ht;unfold stepG.exec ext;dsimp only[List.cons_append];dsimp only[ext,List.cons_append] at ht;rw[ht];rfl
    ·refine .stop λcs=>?_;rw[<-wJ _ (kk l K0)] at ht;unfold stepG.exec ext;dsimp only[ext,List.cons_append] at ht⊢;split
     ·rename_i t e;exact absurd ⟨t,e⟩ ht
     ·trivial
   | block id b=>exact uV hI (c2 (.code b hc) (.inBlock id)) λ_ _=>rfl
   | loop b=>exact uV hI (c2 (.code b hc) (.inLoop b hc)) λ_ _=>rfl
   | scope b=>exact uV hI (c2 (.code b hc) (.inScope b hc)) λ_ _=>rfl
   | ret=>exact yW hI λ_ _=>rfl
   | refuse why=>exact .stop λ_=>trivial
   | exit id=>
    cases e:exitTo id k with
    | none=>
     refine .stop λcs=>?_;show Stops (stepG.exec P true true ⟨fn,tmps,.code (.exit id)::(k++kk l K0),defers,.run,kind,none⟩ _ none _);unfold stepG.exec;dsimp only
     cases l with
     | nil=>rw[show exitTo id (k++kk [] K0)=none from UU e];trivial
     | cons c l=>rw[show exitTo id (k++kk (c::l) K0)=none by rw[show kk (c::l) K0=[] from rfl,dO];exact e];trivial
    | some k'=>
     refine uV hI (λy hy=>hk y (KD e y hy)) λκ cs=>?_;show stepG.exec P true true ⟨fn,tmps,.code (.exit id)::(k++kk l κ),defers,.run,kind,none⟩ _ none _=_;unfold stepG.exec;dsimp only;rw[Ib _ e]
     rfl
   | goto l0=>
    cases e:gotoIn l0 k with
    | none=>
     refine .stop λcs=>?_;show Stops (stepG.exec P true true ⟨fn,tmps,.code (.goto l0)::(k++kk l K0),defers,.run,kind,none⟩ _ none _);unfold stepG.exec;dsimp only
     cases l with
     | nil=>rw[show gotoIn l0 (k++kk [] K0)=none from UR e];trivial
     | cons c l=>rw[show gotoIn l0 (k++kk (c::l) K0)=none by rw[show kk (c::l) K0=[] from rfl,dO];exact e];trivial
    | some k'=>
     refine uV hI (b5z hk e) λκ cs=>?_;show stepG.exec P true true ⟨fn,tmps,.code (.goto l0)::(k++kk l κ),defers,.run,kind,none⟩ _ none _=_;unfold stepG.exec;dsimp only;rw[Uz _ e]
     rfl
   | region id ops draw=>
    cases draw with
    | false=>exact uV hI (c1 (.inRegion ops _ hc)) λ_ _=>rfl
    | true=>
     exact .go ⟨fn,tmps,.inRegion ops (Region.schedule (P.follows .mixedOrders) ops ((Question.order fn id).cut (w.tape w.drawn (.order fn id))))::k,defers,.run,kind,none⟩ l {w with drawn:=w.drawn+1} #[] (λκ cs=>rfl) ⟨⟨c1 (.inRegion ops _ hc),hf.defers,hf.mode,hf.kind,hf.round⟩,hI.low⟩ ⟨aj _,λ_ h=>h⟩ (by simp)
   | rangeFunc f params assign body=>exact hc.elim
theorem b5A{fr:Frame}{l:List Frame}{w:World}(hI:oL D fr l)(hm:fr.mode=.returning)(hne:l≠[]):
 uo D l w (λκ cs=>unwind P true (ext fr (kk l κ)) (low l κ cs) none w):=by
 have em:∀k,(ext fr k).mode=.returning:=λ_=>hm;have ed:∀k,(ext fr k).defers=[]:=λ_=>hI.fr.defers;have en:∀k,(ext fr k).fn=fr.fn:=λ_=>rfl;have et:∀k,(ext fr k).tmps=fr.tmps:=λ_=>rfl
 cases l with
 | nil=>exact absurd rfl hne
 | cons c l=>
  obtain⟨hc,hcm,hcn⟩:=hI.low c (by simp);have hl:∀x∈l,Dz D x/\x.mode=.run/\x.todo≠[]:=λx hx=>hI.low x (by simp[hx])
  cases hfn:P.funcs[fr.fn]? with
  | none=>
   refine .go (c.finish (fr.tmps.getD 0 undef)) l w #[] (λκ cs=>?_) ⟨(hc.finish _).1,hl⟩ (Rows.refl w) (by simp);unfold unwind;rw[ed,em];dsimp only;rw[en,hfn];dsimp only;unfold doReturn;rw[show(ext fr (kk (c::l) κ)).kind=.normal from hI.fr.kind];rw[Hy];dsimp only;rw[O3 hcn]
   rfl
  | some fn=>
   obtain⟨⟨r,es⟩,hT⟩:∃x,(results fn fr.tmps).runT P w #[]=x:=⟨_,rfl⟩;have hs:=b5y (P:=P) fn fr.tmps;obtain⟨hr,-⟩:=hs.run w #[];rw[hT] at hr
   cases r with
   | ok v u=>
    obtain⟨-,hsz,hev⟩:=hs.low hT;refine .go (c.finish v) l u (seen P fr.fn es++#[]) (λκ cs=>?_) ⟨(hc.finish _).1,hl⟩ hr (QJ (hev (by simp)));unfold unwind;rw[ed,em];dsimp only;rw[en,hfn];dsimp only;rw[et,hT]
    exact Zn.pF P (fr:=ext fr (kk (c::l) κ)) hI.fr.kind hcn v _ κ cs _
   | halt x u=>
    refine .stop λcs=>?_;unfold unwind;rw[ed,em];dsimp only;rw[en,hfn];dsimp only;rw[et,hT];cases x<;>trivial
theorem c1p(hP:ER D P){fr:Frame}{l:List Frame}{w:World}(hW:∀g,g<P.globals.size->jW w g)(hI:oL D fr l)(hne:¬Stop fr l):
 uo D l w (λκ cs=>stepG P true (Gr fr l κ cs) w):=by
 rcases hI.fr.mode with hm|hm
 ·refine uo.congr (λκ cs=>?_) (c1o hP hW hI hm λh=>hne ⟨h.1,.inl ⟨hm,h.2⟩⟩);unfold stepG Gr;dsimp only;rw[show(ext fr (kk l κ)).mode=.run from hm]
 ·refine uo.congr (λκ cs=>?_) (b5A (P:=P) hI hm λh=>hne ⟨h,.inr ⟨hm,hI.fr.defers⟩⟩);unfold stepG Gr;dsimp only;rw[show(ext fr (kk l κ)).mode=.returning from hm]
end
section
open Zn (ext kk low Gr K0 c0 Stops Stop uN Dead wM Hz raise_mode EG Q5 zu V7 eD KI Hy UG)
variable{P:Program}{D:kK}{A:Frame->World->Prop}
inductive Way(P:Program)(A:Frame->World->Prop):Frame->List Frame->World->Prop
 | stop (fr:Frame) (w:World) (h:A (ext fr K0) w):Way P A fr [] w
 | step (fr:Frame) (l:List Frame) (w:World) (fr':Frame) (l':List Frame) (w':World) (es:Array Event) (h:∀κ cs,stepG P true (Gr fr l κ cs) w=.go (Gr fr' l' κ cs) w' es) (hr:Rows w w') (he:∀e∈es,qh w'.heap.size e) (k:Way P A fr' l' w'):Way P A fr l w
section
variable(hA:∀F w,A F w->∀c,F.mode≠.panicking c)
include hA
theorem b3U:∀(l:List Frame)(fr:Frame)(w:World)(c:List PanicEntry),fr.mode=.panicking c->fr.defers=[]->(∀x∈l,Dz D x/\x.mode=.run/\x.todo≠[])->Dead P A (lone (ext fr (kk l K0)) (low l K0 [c0]) w):=by
 intro l
 induction l with
 | nil=>
  intro fr w c hm hd _;have hst:=KI (P:=P) (F:=ext fr (kk [] K0)) (cs:=low [] K0 [c0]) (w:=w) (c:=c) hm;by_cases hc:(ext fr (kk [] K0)).catches P=true
  ·refine Q5 (V7 hA hm) hst ?_;unfold unwind;rw[show(ext fr (kk [] K0)).defers=[] from hd,show(ext fr (kk [] K0)).mode=.panicking c from hm];dsimp only;rw[if_pos hc];trivial
  ·refine zu (V7 hA hm) (F':=c0.raise c) (cs':=[]) (w':=w) (es:=#[]) (hst.trans ?_) eD;unfold unwind;rw[show(ext fr (kk [] K0)).defers=[] from hd,show(ext fr (kk [] K0)).mode=.panicking c from hm];dsimp only;rw[if_neg hc]
   rfl
 | cons x l ih=>
  intro fr w c hm hd hl;have hst:=KI (P:=P) (F:=ext fr (kk (x::l) K0)) (cs:=low (x::l) K0 [c0]) (w:=w) (c:=c) hm;by_cases hc:(ext fr (kk (x::l) K0)).catches P=true
  ·refine Q5 (V7 hA hm) hst ?_;unfold unwind;rw[show(ext fr (kk (x::l) K0)).defers=[] from hd,show(ext fr (kk (x::l) K0)).mode=.panicking c from hm];dsimp only;rw[if_pos hc];trivial
  ·obtain⟨c',h1,h2⟩:=raise_mode x c;have hx:=hl x (by simp);refine zu (V7 hA hm) (F':=ext (x.raise c) (kk l K0)) (cs':=low l K0 [c0]) (w':=w) (es:=#[]) (hst.trans ?_) (ih (x.raise c) w c' h1 (h2.trans hx.1.defers) λy hy=>hl y (by simp[hy]));unfold unwind;rw[show(ext fr (kk (x::l) K0)).defers=[] from hd,show(ext fr (kk (x::l) K0)).mode=.panicking c from hm];dsimp only;rw[if_neg hc,Hy];dsimp only;rw[Hz]
omit hA in
theorem b5B{fr:Frame}{w:World}(hI:oL D fr [])(hs:Stop fr [])(hn:¬A (ext fr K0) w):Dead P A (lone (ext fr K0) [c0] w):=by
 have h0:¬uN A (lone (ext fr K0) [c0] w):=by
  rintro⟨F',w',e,ha⟩;obtain⟨rfl,-,rfl⟩:=EG e;exact hn ha
 have hk:=hI.fr.kind;have rH:∀(v:Value)(w:World),Dead P A (lone (c0.finish v) [] w):=λv w=>Q5 UG rfl (by
  unfold stepG c0 Frame.finish K0;dsimp only;unfold stepG.exec;trivial)
 rcases hs.2 with⟨hm,ht⟩|⟨hm,hd⟩
 ·refine Q5 h0 rfl ?_;obtain⟨fn,tmps,todo,defers,mode,kind,roundOf⟩:=fr;dsimp only at hm ht;subst hm ht;trivial
 ·have hst:stepG P true {frame:=ext fr K0,callers:=[c0],status:=.running,dying:=none} w=unwind P true (ext fr K0) [c0] none w:=by
   unfold stepG;dsimp only;rw[show(ext fr K0).mode=.returning from hm]
  have ed:(ext fr K0).defers=[]:=hd;have em:(ext fr K0).mode=.returning:=hm;have ek:(ext fr K0).kind=.normal:=hk
  cases hfn:P.funcs[fr.fn]? with
  | none=>
   refine zu h0 (hst.trans ?_) (rH ((ext fr K0).tmps.getD 0 undef) w) (es:=#[]);unfold unwind;rw[ed,em];dsimp only;rw[show(ext fr K0).fn=fr.fn from rfl,hfn];dsimp only;unfold doReturn
   rw[ek]
  | some fn=>
   cases hr:(results fn (ext fr K0).tmps).runT P w #[] with
   | mk r es=>
   cases r with
   | ok v u=>
    refine zu h0 (hst.trans ?_) (rH v u) (es:=seen P fr.fn es++#[]);unfold unwind;rw[ed,em];dsimp only;rw[show(ext fr K0).fn=fr.fn from rfl,hfn];dsimp only;rw[hr];dsimp only;unfold doReturn;rw[ek]
    rfl
   | halt x u=>
    refine Q5 h0 hst ?_;unfold unwind;rw[ed,em];dsimp only;rw[show(ext fr K0).fn=fr.fn from rfl,hfn];dsimp only;rw[hr];cases x<;>trivial
theorem nN(hP:ER D P):∀(n:Nat)(fr:Frame)(l:List Frame)(w:World),(∀g,g<P.globals.size->jW w g)->oL D fr l->(∃m',runN P n (lone (ext fr (kk l K0)) (low l K0 [c0]) w)=.next m'/\uN A m')->Way P A fr l w:=by
 intro n
 induction n with
 | zero=>
  rintro fr l w hW hI ⟨m',hr,F,w',rfl,ha⟩;simp only[runN] at hr;injection hr with hr;obtain⟨rfl,e1,rfl⟩:=EG hr
  cases l with
  | nil=>exact .stop fr w ha
  | cons x l=>
   have:=congrArg List.length e1
   cases l<;>simp[low] at this
 | succ n ih=>
  intro fr l w hW hI ⟨m',hr,harr⟩;by_cases h0:uN A (lone (ext fr (kk l K0)) (low l K0 [c0]) w)
  ·obtain⟨F,w',e,ha⟩:=h0;obtain⟨rfl,e1,rfl⟩:=EG e
   cases l with
   | nil=>exact .stop fr w ha
   | cons x l=>
    have:=congrArg List.length e1;cases l<;>simp[low] at this
  by_cases hs:Stop fr l
  ·obtain rfl:l=[]:=hs.1;exact absurd harr (b5B hI hs (λh=>h0 ⟨_,_,rfl,h⟩) (n+1) m' hr)
  cases c1p hP hW hI hs with
  | go fr' l' w' es h hI' hro he=>
   refine .step fr l w fr' l' w' es h hro he (ih fr' l' w' (λg hg=>hro.2 g (hW g hg)) hI' ⟨m',?_,harr⟩);have e1:step P (lone (ext fr (kk l K0)) (low l K0 [c0]) w)=.next (lone (ext fr' (kk l' K0)) (low l' K0 [c0]) w'):=step_lone_go (by
    have:=h K0 [c0];show(stepG P true (Gr fr l K0 [c0]) w).bare=_;rw[this];rfl)
   simp only[runN,e1] at hr
   exact hr
  | bad fr' c w' es h hm hd=>
   exact absurd harr (zu h0 (h K0 [c0]) (b3U hA l fr' w' c hm hd hI.low) (n+1) m' hr)
  | stop h=>exact absurd harr (Q5 h0 rfl (h [c0]) (n+1) m' hr)
end
end
end Go.Nm
namespace Go.Mc
section
open Go.Conc
inductive Tr:Type where
 | leaf:Tr
 | node (f:World->Tr):Tr
inductive qc:Tr->Tr->Prop
 | mk (f:World->Tr) (w:World):qc (f w) (.node f)
theorem qc.wf:WellFounded qc:=⟨λT=>by
 induction T with
 | leaf=>exact⟨_,λy h=>by cases h⟩
 | node f ih=>exact⟨_,λy h=>by cases h with|mk _ w=>exact ih w⟩⟩
def En(n:Nat)(T' T:Nat->Tr):Prop:=∃i,i<n/\qc (T' i) (T i)/\∀k,k≠i->T' k=T k
theorem En.acc(n:Nat):∀T:Nat->Tr,Acc (En n) T:=by
 induction n with
 | zero=>exactλT=>⟨_,λy h=>by obtain⟨i,hi,_⟩:=h;omega⟩
 | succ n ih=>
  have key:∀(x:Tr),Acc qc x->∀T:Nat->Tr,Acc (En n) T->T n=x->Acc (En (n+1)) T:=by
   intro x hx
   induction hx with
   | intro x _ Xg=>
    intro T hT
    induction hT with
    | intro T _ Xh=>
     intro e;refine⟨_,λT' h=>?_⟩;obtain⟨i,hi,hlt,hk⟩:=h;by_cases hin:i=n
     ·subst hin;exact Xg (T' i) (e▸hlt) T' (ih T') rfl
     ·exact Xh T' ⟨i,by omega,hlt,hk⟩ ((hk n (bP hin)).trans e)
  exactλT=>key (T n) (qc.wf.apply _) T (ih T) rfl
structure Mu where
 S:Nat
 T:Nat->Tr
 T0:Tr
 e:Nat
inductive qJ(n:Nat):Mu->Mu->Prop
 | stage (a b:Mu) (h:a.S<b.S):qJ n a b
 | worker (a b:Mu) (h:a.S=b.S) (hT:En n a.T b.T):qJ n a b
 | starter (a b:Mu) (h:a.S=b.S) (hT:a.T=b.T) (h0:qc a.T0 b.T0):qJ n a b
 | blocks (a b:Mu) (h:a.S=b.S) (hT:a.T=b.T) (h0:a.T0=b.T0) (he:a.e<b.e):qJ n a b
theorem qJ.wf(n:Nat):WellFounded (qJ n):=⟨by
 have key:∀(s:Nat),∀(T:Nat->Tr),Acc (En n) T->∀(x:Tr),Acc qc x->∀e:Nat,Acc (qJ n) ⟨s,T,x,e⟩:=by
  intro s
  induction s using Nat.strongRecOn with
  | _ s ihs=>
   intro T hT
   induction hT with
   | intro T _ Xh=>
    intro x hx
    induction hx with
    | intro x _ Xg=>
     intro e
     induction e using Nat.strongRecOn with
     | _ e nz=>
      refine⟨_,λy h=>?_⟩;obtain⟨s',T',x',e'⟩:=y
      cases h with
      | stage h=>exact ihs s' h T' (En.acc n T') x' (qc.wf.apply _) e'
      | worker h hT'=>
       dsimp only at h;subst h
       exact Xh T' hT' x' (qc.wf.apply _) e'
      | starter h hT' h0=>
       dsimp only at h hT' h0;subst h;subst hT'
       exact Xg x' h0 e'
      | blocks h hT' h0 he=>
       dsimp only at h hT' h0 he;subst h;subst hT';subst h0;exact nz e' he
 exactλ⟨s,T,x,e⟩=>key s T (En.acc n T) x (qc.wf.apply _) e⟩
section
variable{γ:Type}(P:Program)(main:Bool)(R:γ->World->World->Prop)(D:γ->γ->World->World->Array Event->Prop)(Stop:γ->Goroutine->World->Prop)
def Wk:Tr->γ->Goroutine->World->Prop
 | .leaf,x,g,w=>∀w₁,R x w w₁->Stop x g w₁
 | .node f,x,g,w=>(∀w₁,R x w w₁->Stop x g w₁)\/(g.status=.running/\∀w₁,R x w w₁->∃g' w' es x',stepG P main g w₁=.go g' w' es/\D x x' w₁ w' es/\Wk (f w₁) x' g' w')
end
section
variable{γ:Type}{P:Program}{main:Bool}{R:γ->World->World->Prop}{D:γ->γ->World->World->Array Event->Prop}{Stop:γ->Goroutine->World->Prop}
theorem Wk.stop{T:Tr}{x:γ}{g:Goroutine}{w:World}(h:∀w₁,R x w w₁->Stop x g w₁):Wk P main R D Stop T x g w:=by
 cases T with
 | leaf=>exact h
 | node f=>exact .inl h
theorem Wk.rely(tr:∀x a b c,R x a b->R x b c->R x a c){T:Tr}{x:γ}{g:Goroutine}{w w₁:World}(h:Wk P main R D Stop T x g w)(hr:R x w w₁):Wk P main R D Stop T x g w₁:=by
 cases T with
 | leaf=>exactλw₂ h₂=>h w₂ (tr _ _ _ _ hr h₂)
 | node f=>
  rcases h with h|⟨hs,h⟩
  ·exact .inl λw₂ h₂=>h w₂ (tr _ _ _ _ hr h₂)
  ·exact .inr ⟨hs,λw₂ h₂=>h w₂ (tr _ _ _ _ hr h₂)⟩
theorem Wk.running(hst:∀x g w,Stop x g w->g.status=.running){T:Tr}{x:γ}{g:Goroutine}{w:World}(hr:R x w w)(h:Wk P main R D Stop T x g w):g.status=.running:=by
 cases T with
 | leaf=>exact hst _ _ _ (h w hr)
 | node f=>exact h.elim (λh=>hst _ _ _ (h w hr)) (·.1)
theorem Wk.cases{T:Tr}{x:γ}{g:Goroutine}{w:World}(h:Wk P main R D Stop T x g w):
 (∀w₁,R x w w₁->Stop x g w₁)\/∀w₁,R x w w₁->∃T' g' w' es x',qc T' T/\stepG P main g w₁=.go g' w' es/\D x x' w₁ w' es/\Wk P main R D Stop T' x' g' w':=by
 cases T with
 | leaf=>exact .inl h
 | node f=>
  refine h.imp id λh w₁ hr=>?_;obtain⟨g',w',es,x',h1,h2,h3⟩:=h.2 w₁ hr;exact⟨f w₁,g',w',es,x',.mk f w₁,h1,h2,h3⟩
theorem Wk.step{x:γ}{g:Goroutine}{w:World}(hs:g.status=.running)(h:∀w₁,R x w w₁->∃g' w' es x' T,stepG P main g w₁=.go g' w' es/\D x x' w₁ w' es/\Wk P main R D Stop T x' g' w'):∃T,Wk P main R D Stop T x g w:=by
 classical
 have:∀w₁,∃T,R x w w₁->∃g' w' es x',stepG P main g w₁=.go g' w' es/\D x x' w₁ w' es/\Wk P main R D Stop T x' g' w':=λw₁=>by
  by_cases hr:R x w w₁
  ·obtain⟨g',w',es,x',T,h1⟩:=h w₁ hr;exact⟨T,λ_=>⟨g',w',es,x',h1⟩⟩
  ·exact⟨.leaf,λh=>absurd h hr⟩
 refine⟨.node λw₁=>Classical.choose (this w₁),.inr ⟨hs,λw₁ hr=>fM (this w₁) hr⟩⟩
theorem Wk.bind{Stop':γ->Goroutine->World->Prop}(hR:∀x w,R x w w)(tr:∀x a b c,R x a b->R x b c->R x a c){T:Tr}:∀{x:γ}{g:Goroutine}{w:World},Wk P main R D Stop T x g w->
 (∀x g w,Stop x g w->∃T',Wk P main R D Stop' T' x g w)->∃T',Wk P main R D Stop' T' x g w:=by
 induction T with
 | leaf=>exactλh k=>k _ _ _ (h _ (hR _ _))
 | node f ih=>
  intro x g w h k;rcases h with h|⟨hs,h⟩
  ·exact k _ _ _ (h _ (hR _ _))
  ·refine Wk.step hs λw₁ hr=>?_;obtain⟨g',w',es,x',h1,h2,h3⟩:=h w₁ hr;obtain⟨T',h4⟩:=ih w₁ h3 k;exact⟨g',w',es,x',T',h1,h2,h4⟩
theorem Wk.pI{R0:World->World->Prop}{D0:World->World->Array Event->Prop}{Stop0:Goroutine->World->Prop}(x:γ)(hRR:∀w w',R x w w'->R0 w w')(hDD:∀w w' es,D0 w w' es->D x x w w' es)(hS:∀g w,Stop0 g w->Stop x g w):
 ∀{n:Nat}{g:Goroutine}{w:World},Goes P main R0 D0 Stop0 n g w->∃T,Wk P main R D Stop T x g w
 | 0,g,w,h=>⟨.leaf,λw₁ hr=>hS _ _ (h w₁ (hRR _ _ hr))⟩
 | n+1,g,w,h=>by
  rcases h with h|⟨hs,h⟩
  ·exact⟨.leaf,λw₁ hr=>hS _ _ (h w₁ (hRR _ _ hr))⟩
  ·refine Wk.step hs λw₁ hr=>?_;obtain⟨g',w',es,e,hd,hn⟩:=goes_elim (h w₁ (hRR _ _ hr));obtain⟨T,hT⟩:=Wk.pI x hRR hDD hS hn;exact⟨g',w',es,x,T,e,hDD _ _ _ hd,hT⟩
end
end
section
open Go.Conc Go.ConcN
section
variable(c:Nat)(Sh Old:Loc->Prop)(Own Rd:Nat->Loc->Prop)
structure Apart:Prop where
 own:∀i k l,Own i l->Own k l->i=k
 ownRd:∀i k l,Own i l->¬Rd k l
 ownSh:∀i l,Own i l->¬Sh l
 rdSh:∀i l,Rd i l->¬Sh l
 Fg:∀i l,Own i l->¬Old l
 Lm:∀i l,Rd i l->¬Old l
 xQ:∀l,Sh l->¬Old l
structure CT(t:Trace)(j:Nat):Prop where
 quiet:Quiet Sh t
 own:∀i,i<j->∀l,Own i l->Perm t (c+i) l
 rd:∀i,i<j->∀l,Rd i l->PermW t (c+i) l
 free:∀l,¬Sh l->¬Old l->(∀i,i<j->¬Own i l/\¬Rd i l)->Perm t 0 l
 mine:∀l,¬Sh l->¬Old l->(∀i,i<j->¬Own i l)->PermW t 0 l
 nr:∀said,¬Race said t
 gs:∀(i:Nat)(op:MemOp),t[i]?=some op->op.g<c+j
def Ok0(j:Nat)(op:MemOp):Prop:=
 op.g=0/\∀x,op.act.touch?=some x->(Sh x.loc/\x.kind≠.plain)\/(¬Sh x.loc/\¬Old x.loc/\(∀i,i<j->¬Own i x.loc)/\(x.write=true->∀i,i<j->¬Rd i x.loc))
def OkW(i:Nat)(op:MemOp):Prop:=
 op.g=c+i/\∀x,op.act.touch?=some x->(Sh x.loc/\x.kind≠.plain/\x.kind≠.said)\/Own i x.loc\/(Rd i x.loc/\x.write=false)
end
section
variable{c:Nat}{Sh Old:Loc->Prop}{Own Rd:Nat->Loc->Prop}{t u:Trace}{j:Nat}
theorem CT.app0(hc:0<c)(A:Apart Sh Old Own Rd)(h:CT c Sh Old Own Rd t j)(hu:∀op∈u,Ok0 Sh Old Own Rd j op):CT c Sh Old Own Rd (t++u) j:=by
 refine⟨h.quiet.app λop hop x hx hs=>?_,λi ij l hl=>(h.own i ij l hl).app λop hop b hb e=>?_,λi ij l hl=>(h.rd i ij l hl).app λop hop b hb e hw=>?_,
  λl hs ho hl=>(h.free l hs ho hl).app λop hop _ _ _=>(hu op hop).1,λl hs ho hl=>(h.mine l hs ho hl).app λop hop _ _ _ _=>(hu op hop).1,λsaid=>?_,λi op hi=>?_⟩
 ·rcases(hu op hop).2 x hx with⟨_,hk⟩|⟨hn,_⟩
  ·exact⟨hk,λ_=>(hu op hop).1⟩
  ·exact absurd hs hn
 ·rcases(hu op hop).2 b hb with⟨hs,_⟩|⟨_,_,hn,_⟩
  ·exact absurd (e▸hs) (A.ownSh i l hl)
  ·exact absurd (e▸hl) (hn i ij)
 ·rcases(hu op hop).2 b hb with⟨hs,_⟩|⟨_,_,_,hn⟩
  ·exact absurd (e▸hs) (A.rdSh i l hl)
  ·exact absurd (e▸hl) (hn hw i ij)
 ·refine noRace_append (h.nr said) (λop hop=>(hu op hop).1) (λi a ha op hop b hb hc=>?_);rcases(hu op hop).2 b hb with⟨hs,hk⟩|⟨hs,ho,hno,hnr⟩
  ·exact h.quiet.known hs hk (λ_=>rfl) i a ha hc
  ·cases hbw:b.write with
   | true=>exact h.free b.loc hs ho (λk kj=>⟨hno k kj,hnr hbw k kj⟩) i a ha hc.1
   | false=>exact h.mine b.loc hs ho hno i a ha hc.1 (hc.2.2.1.resolve_right (by simp[hbw]))
 ·rcases getElem?_append_cases hi with⟨_,hi'⟩|⟨_,hiu⟩
  ·exact h.gs i op hi'
  ·rw[(hu op hiu).1];omega
theorem CT.appW(A:Apart Sh Old Own Rd)(h:CT c Sh Old Own Rd t j){i:Nat}(ij:i<j)(hu:∀op∈u,OkW c Sh Own Rd i op):CT c Sh Old Own Rd (t++u) j:=by
 refine⟨h.quiet.app λop hop x hx hs=>?_,λi' Xf l hl=>(h.own i' Xf l hl).app λop hop b hb e=>?_,λi' Xf l hl=>(h.rd i' Xf l hl).app λop hop b hb e hw=>?_,
  λl hs ho hl=>(h.free l hs ho hl).app λop hop b hb e=>?_,λl hs ho hl=>(h.mine l hs ho hl).app λop hop b hb e hw=>?_,λsaid=>?_,λk op hi=>?_⟩
 ·rcases(hu op hop).2 x hx with⟨_,hk,hn⟩|ho|⟨hr,_⟩
  ·exact⟨hk,λe=>absurd e hn⟩
  ·exact absurd hs (A.ownSh i _ ho)
  ·exact absurd hs (A.rdSh i _ hr)
 ·rcases(hu op hop).2 b hb with⟨hs,_⟩|ho|⟨hr,_⟩
  ·exact absurd (e▸hs) (A.ownSh i' l hl)
  ·rw[(hu op hop).1,A.own i i' l (e▸ho) hl]
  ·exact absurd (e▸hr) (A.ownRd i' i l hl)
 ·rcases(hu op hop).2 b hb with⟨hs,_⟩|ho|⟨_,hr⟩
  ·exact absurd (e▸hs) (A.rdSh i' l hl)
  ·exact absurd hl (A.ownRd i i' l (e▸ho))
  ·rw[hr] at hw;cases hw
 ·rcases(hu op hop).2 b hb with⟨hs',_⟩|ho|⟨hr,_⟩
  ·exact absurd (e▸hs') hs
  ·exact absurd (e▸ho) (hl i ij).1
  ·exact absurd (e▸hr) (hl i ij).2
 ·rcases(hu op hop).2 b hb with⟨hs',_⟩|ho|⟨_,hr⟩
  ·exact absurd (e▸hs') hs
  ·exact absurd (e▸ho) (hl i ij)
  ·rw[hr] at hw;cases hw
 ·refine noRace_append (h.nr said) (λop hop=>(hu op hop).1) (λk a ha op hop b hb hc=>?_);rcases(hu op hop).2 b hb with⟨hs,hk,hn⟩|ho|⟨hr,hbw⟩
  ·exact h.quiet.known hs hk (λe=>absurd e hn) k a ha hc
  ·exact h.own i ij b.loc ho k a ha hc.1
  ·exact h.rd i ij b.loc hr k a ha hc.1 (hc.2.2.1.resolve_right (by simp[hbw]))
 ·rcases getElem?_append_cases hi with⟨_,hi'⟩|⟨_,hiu⟩
  ·exact h.gs k op hi'
  ·rw[(hu op hiu).1];omega
theorem CT.appMute(h:CT c Sh Old Own Rd t j){g:Nat}(hg:g<c+j)(hu:∀op∈u,op.g=g)(hn:∀op∈u,op.act.touch?=none):CT c Sh Old Own Rd (t++u) j:=by
 have no:∀{op:MemOp}{b:Touch}{p:Prop},op∈u->op.act.touch?=some b->p:=λhop hb=>by rw[hn _ hop] at hb;cases hb
 refine⟨h.quiet.app λop hop x hx hs=>no hop hx,λi ij l hl=>(h.own i ij l hl).app λop hop b hb e=>no hop hb,λi ij l hl=>(h.rd i ij l hl).app λop hop b hb e hw=>no hop hb,
  λl hs ho hl=>(h.free l hs ho hl).app λop hop _ hb _=>no hop hb,λl hs ho hl=>(h.mine l hs ho hl).app λop hop _ hb _ _=>no hop hb,λsaid=>?_,λi op hi=>?_⟩
 ·exact noRace_append (h.nr said) hu (λi a ha op hop b hb hc=>no hop hb)
 ·rcases getElem?_append_cases hi with⟨_,hi'⟩|⟨_,hiu⟩
  ·exact h.gs i op hi'
  ·rw[hu op hiu];exact hg
theorem CT.grow{Own':Nat->Loc->Prop}(h:CT c Sh Old Own Rd t j)(hm:∀i l,Own i l->Own' i l)(hn:∀i l,Own' i l->Own i l\/∀k a,touchAt t k=some a->a.loc≠l):CT c Sh Old Own' Rd t j:=by
 refine⟨h.quiet,λi ij l hl=>?_,h.rd,λl hs ho hl=>h.free l hs ho λi ij=>⟨λx=>(hl i ij).1 (hm i l x),(hl i ij).2⟩,λl hs ho hl=>h.mine l hs ho λi ij x=>hl i ij (hm i l x),h.nr,h.gs⟩;rcases hn i l hl with h1|h1
 ·exact h.own i ij l h1
 ·exactλk a ha e=>absurd e (h1 k a ha)
theorem CT.fork(hc:0<c)(A:Apart Sh Old Own Rd)(h:CT c Sh Old Own Rd t j){x y:MemOp}(hx:x.g=0/\x.act=.go (c+j))(hy:y.g=c+j/\y.act=.start)(h0:Deaf t 0=0):CT c Sh Old Own Rd (t++#[x,y]) (j+1):=by
 have hk:Deaf t (c+j)=0:=Deaf_absent λi op hi e=>by have:=h.gs i op hi;omega
 have hnt:∀op∈#[x,y],∀b,op.act.touch?=some b->False:=by
  intro op hop b hb;simp only[zK,aY,iH,or_false] at hop;rcases hop with rfl|rfl
  ·rw[hx.2] at hb;cases hb
  ·rw[hy.2] at hb;cases hb
 have old:∀{i:Nat}{a:Touch},touchAt (t++#[x,y]) i=some a->touchAt t i=some a:=by
  intro i a ha;obtain⟨z,hz,hza⟩:=touch_of ha;rcases getElem?_append_cases hz with⟨_,hz'⟩|⟨_,hzu⟩
  ·rw[touchAt_of hz'];exact hza
  ·exact(hnt z hzu a hza).elim
 refine⟨h.quiet.app λop hop b hb _=>(hnt op hop b hb).elim,λk kj l hl=>?_,λk kj l hl=>?_,
  λl hs ho hl=>(h.free l hs ho λk kj=>hl k (by omega)).app λop hop b hb _=>(hnt op hop b hb).elim,λl hs ho hl=>(h.mine l hs ho λk kj=>hl k (by omega)).app λop hop b hb _ _=>(hnt op hop b hb).elim,λsaid=>?_,λi op hi=>?_⟩
 ·rcases aX k j with hlt|hge
  ·exact(h.own k hlt l hl).app λop hop b hb _=>(hnt op hop b hb).elim
  ·obtain rfl:k=j:=by omega
   exactλi a ha e=>fork_knows hx hy h0 hk (h.free l (A.ownSh _ l hl) (A.Fg _ l hl) (λk' k'j=>⟨λho=>by have:=A.own _ _ l ho hl;omega,A.ownRd _ _ l hl⟩) i a (old ha) e)
 ·rcases aX k j with hlt|hge
  ·exact(h.rd k hlt l hl).app λop hop b hb _ _=>(hnt op hop b hb).elim
  ·obtain rfl:k=j:=by omega
   exactλi a ha e hw=>fork_knows hx hy h0 hk (h.mine l (A.rdSh _ l hl) (A.Lm _ l hl) (λk' _ ho=>A.ownRd _ _ l ho hl) i a (old ha) e hw)
 ·have e:t++#[x,y]=(t++#[x])++#[y]:=by apply Array.ext';simp
  rw[e];refine noRace_append (g:=c+j) (noRace_append (g:=0) (h.nr said) (λop hop=>by simp at hop;rw[hop];exact hx.1) (λi a _ op hop b hb _=>(hnt op (by simp at hop⊢;exact .inl hop) b hb).elim))
   (λop hop=>by simp at hop;rw[hop];exact hy.1) (λi a _ op hop b hb _=>(hnt op (by simp at hop⊢;exact .inr hop) b hb).elim)
 ·rcases getElem?_append_cases hi with⟨_,hi'⟩|⟨_,hiu⟩
  ·have:=h.gs i op hi';omega
  ·simp only[zK,aY,iH,or_false] at hiu;rcases hiu with rfl|rfl
   ·rw[hx.1];omega
   ·rw[hy.1];omega
theorem HJ{B:Nat}{act:MemAct}{x:Touch}(h:act.low B)(hx:act.touch?=some x):x.loc.low B:=by
 cases act with
 | access e=>simp only[MemAct.touch?,bJ] at hx;subst hx;exact h
 | mark m=>
  cases m<;>simp only[MemAct.touch?] at hx<;>cases hx<;>exact h
 | _=>simp only[MemAct.touch?] at hx;cases hx
theorem CT.init{Shun:Loc->Prop}{B:Nat}(hc:0<c)(h:Past Shun B t)(hO:∀l,¬Old l->¬Shun l/\l.isMemory=true)(hS:∀l,Sh l->¬l.low B)(hg:∀(i:Nat)(op:MemOp),t[i]?=some op->op.g<c):CT c Sh Old Own Rd t 0:=by
 have kn:∀l,¬Old l->∀i a,touchAt t i=some a->a.loc=l->Knows t 0 i:=λl hl i a ha e=>by
  rcases h.known i a ha (by rw[e];exact(hO l hl).2) with hk|⟨hk,_⟩
  ·exact hk
  ·exact absurd (e▸hk) (hO l hl).1
 refine⟨λi op x hi hx hs=>?_,λi ij=>by omega,λi ij=>by omega,λl _ ho _=>kn l ho,λl _ ho _ i a ha e _=>kn l ho i a ha e,h.clean,λi op hi=>by have:=hg i op hi;omega⟩;exfalso;refine hS _ hs ?_;have hlow:=h.seen op (Array.mem_of_getElem? hi);exact HJ hlow hx
structure Rel(Wg:Nat)(t:Trace)(k r:Nat):Prop extends RelBy (Go.ConcR.stA Wg) t k r where
 only:∀i a,r<i->t.g? i=some k->touchAt t i=some a->ShN Wg a.loc/\a.kind=.atomic
theorem Rel.appNot{Wg k r:Nat}(h:Rel Wg t k r)(hu:∀op∈u,op.g≠k):Rel Wg (t++u) k r:=by
 refine⟨h.toRelBy.appNot hu,λi a hi hg ha=>?_⟩;obtain⟨op,ho,hog⟩:=aS.1 hg;rcases getElem?_append_cases ho with⟨hlt,_⟩|⟨_,hou⟩
 ·exact h.only i a hi (by rw[<-g?_old (u:=u) hlt];exact hg) (by rw[<-touchAt_old (u:=u) hlt];exact ha)
 ·exact absurd hog (hu op hou)
theorem Rel.new{Wg k:Nat}(hd:Deaf t k=0)(fn:FuncId)(pos:String):Rel Wg (t++MemOp.ofEvents k fn pos #[Go.ConcR.mk (.releaseMerge (Go.ConcR.stA Wg))]) k t.size:=by
 refine⟨RelBy.new hd fn pos,λi a hi hg _=>?_⟩;obtain⟨op,ho,_⟩:=aS.1 hg;have:=lt_size_of_getElem? ho;rw[ofEvents_eq] at this;simp at this;omega
theorem Rel.book{Wg k r d:Nat}(h:Rel Wg t k r)(hdk:Deaf t k=d)(fn:FuncId)(pos:String){es:Array Event}(hes:∀e∈es,Go.ConcR.Bk Wg e)
 (hd:∀j e,es[j]?=some e->(MemAct.ofEvent e).touch?=none\/0<deafBehind d (es.extract 0 j)):Rel Wg (t++MemOp.ofEvents k fn pos es) k r:=by
 refine⟨h.toRelBy.book hdk fn pos hes hd,λi a hi hg ha=>?_⟩;obtain⟨op,ho,hog⟩:=aS.1 hg;rcases getElem?_append_cases ho with⟨hlt,_⟩|⟨_,hou⟩
 ·exact h.only i a hi (by rw[<-g?_old (u:=MemOp.ofEvents k fn pos es) hlt];exact hg) (by rw[<-touchAt_old (u:=MemOp.ofEvents k fn pos es) hlt];exact ha)
 ·obtain⟨e,he,rfl⟩:=Go.Conc.mem_ofEvents hou;rw[touchAt_of ho] at ha;rcases hes e he with h1|h1|⟨ad,wr,rfl,hb⟩
  ·rw[Go.ConcR.ofEvent_loc_mark h1] at ha;cases ha
  ·rw[Go.ConcR.ofEvent_loc_mark h1] at ha;cases ha
  ·rw[Go.ConcR.ofEvent_cell] at ha;simp only[MemAct.touch?,bJ] at ha;subst ha;exact⟨⟨ad,rfl,hb⟩,rfl⟩
end
theorem c0H{c j:Nat}{Sh Old:Loc->Prop}{Own Rd:Nat->Loc->Prop}{Wg B B':Nat}{Shun:Loc->Prop}{t0 u:Trace}(h0:Past Shun B t0)(hB:B<=B')(h:CT c Sh Old Own Rd (t0++u) j){q:Nat}
 (hu:∀op∈u,op.g=0\/op.act.touch?=none\/∃i,i<j/\op.g=c+i)(hn:NoRelease (Go.ConcR.stA Wg) (t0++u))(hq:(t0++u).act? q=some (.mark (.acquire (Go.ConcR.stA Wg))))(hg:(t0++u).g? q=some 0)(hh:(t0++u).heard q)
 (hr:∀i,i<j->∃r,Rel Wg (t0++u) (c+i) r/\r<q)(hd:Deaf (t0++u) 0=0)(hl:∀op∈u,op.act.low B'):Past (λl=>Shun l\/ShN Wg l) B' (t0++u):=by
 have edge:∀i,i<j->∃r,Rel Wg (t0++u) (c+i) r/\HappensBefore (t0++u) r q:=λi hi=>by
  obtain⟨r,hr,hrq⟩:=hr i hi;exact⟨r,hr,.single (.inr ⟨.marked hrq (.inr hr.act) hq (λk _ _=>hn k),hr.heard,hh⟩)⟩
 obtain⟨zq,oe,hzg⟩:=aS.1 hg;refine⟨h.nr,λi a ha hm=>?_,λi g hgi hne hc=>?_,hd,seen_app (λop hop=>MemAct.low_mono hB (h0.seen op hop)) hl⟩
 ·obtain⟨x,hx,hxa⟩:=touch_of ha;rcases getElem?_append_cases hx with⟨hi,hx'⟩|⟨_,hxu⟩
  ·exact(h0.known i a (by rw[touchAt_of hx'];exact hxa) hm).imp (·.app u) λy=>⟨.inl y.1,y.2⟩
  ·rcases hu x hxu with h1|h1|⟨k,hk,h1⟩
   ·have:=knows_own hx;rw[h1] at this;exact .inl this
   ·rw[h1] at hxa;cases hxa
   ·obtain⟨r,hr,he⟩:=edge k hk;have hgx:(t0++u).g? i=some (c+k):=by simp[Trace.g?,hx,h1]
    rcases aX r i with hlt|hge
    ·obtain⟨h2,h3⟩:=hr.only i a hlt hgx ha;exact .inr ⟨.inr h2,h3⟩
    ·refine .inl ⟨q,zq,oe,hzg,.inr ?_⟩;rcases aX i r with h2|h2
     ·exact .trans (.single (.inl ⟨h2,c+k,hgx,hr.g⟩)) he
     ·obtain rfl:i=r:=by omega
      exact he
 ·obtain⟨x,hx,hxm⟩:=hc;obtain⟨op,hop,hox⟩:=touch_of hx;rcases getElem?_append_cases hop with⟨hi,hop'⟩|⟨_,hopu⟩
  ·obtain⟨p,hp,hb⟩:=h0.over i g (by simpa [Trace.g?,getElem?_append_old hi] using hgi) hne ((counts_old hi).1 ⟨x,hx,hxm⟩);have hpl:p<t0.size:=by
    unfold Trace.g? at hp;obtain⟨z,hz,_⟩:=aS.1 hp;exact lt_size_of_getElem? hz
   exact⟨p,by simpa [Trace.g?,getElem?_append_old hpl] using hp,hb_app u hb⟩
  ·have hgo:op.g=g:=by simpa [Trace.g?,hop] using hgi
   rcases hu op hopu with h1|h1|⟨k,hk,h1⟩
   ·exact absurd (hgo.symm.trans h1) hne
   ·rw[h1] at hox;cases hox
   ·obtain⟨r,hr,he⟩:=edge k hk;have hgx:(t0++u).g? i=some (c+k):=by rw[hgi,<-hgo,h1]
    rcases aX r i with hlt|hge
    ·exact absurd ⟨x,hx,hxm⟩ (hr.after i hlt hgx)
    ·refine⟨q,hg,?_⟩;rcases aX i r with h2|h2
     ·exact .trans (.single (.inl ⟨h2,c+k,hgx,hr.g⟩)) he
     ·obtain rfl:i=r:=by omega
      exact he
end
end Go.Mc
