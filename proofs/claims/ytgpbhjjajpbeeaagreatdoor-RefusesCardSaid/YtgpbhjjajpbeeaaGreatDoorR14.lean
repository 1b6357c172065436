/- A part of what the last file proves. -/
import Derived.Test.YtgpbhjjajpbeeaaGreatDoorR11
import Derived.Control
set_option linter.all false
namespace Go.Zn
section
variable{P:Program}
def Nx(P:Program)(fr:Frame)(l:List Frame)(w:World)(fr':Frame)(l':List Frame)(w':World)(es:Array Event):Prop:=
 ∀κ cs,stepG P true (Gr fr l κ cs) w=.go (Gr fr' l' κ cs) w' es
inductive Goe(P:Program)(Z:Zone)(Sh:Nat->Prop)(X:Tmp->Prop)(A:Frame->World->Prop):Frame->List Frame->World->Prop
 | stop (fr:Frame) (w:World) (hI:Inv Z Sh X fr [] w) (τ:Nat->Question->Nat) (p:Nat) (h:A (ext fr K0) (tp w τ p)):Goe P Z Sh X A fr [] w
 | step (fr:Frame) (l:List Frame) (w:World) (hI:Inv Z Sh X fr l w) (F:(Nat->Question->Nat)->Nat->Frame) (L:(Nat->Question->Nat)->Nat->List Frame) (W:(Nat->Question->Nat)->Nat->World) (E:(Nat->Question->Nat)->Nat->Array Event)
  (h:∀τ p,Nx P fr l (tp w τ p) (F τ p) (L τ p) (W τ p) (E τ p))(hs:∀τ p,w.heap.size<=(W τ p).heap.size)
  (he:∀τ p,∀e∈E τ p,EvOK (Zf Z Sh (W τ p).heap.size) (W τ p).heap.size e)(k:∀τ p,Goe P Z Sh X A (F τ p) (L τ p) (W τ p)):Goe P Z Sh X A fr l w
theorem Goe.inv{Z:Zone}{Sh:Nat->Prop}{X:Tmp->Prop}{A:Frame->World->Prop}{fr:Frame}{l:List Frame}{w:World}(h:Goe P Z Sh X A fr l w):Inv Z Sh X fr l w:=by
 cases h<;>assumption
theorem Goe.of_next{Z:Zone}{Sh:Nat->Prop}{X:Tmp->Prop}{A:Frame->World->Prop}{fr:Frame}{l:List Frame}{w:World}(hI:Inv Z Sh X fr l w)
 (h:∀τ p,∃fr' l' w' es,Nx P fr l (tp w τ p) fr' l' w' es/\w.heap.size<=w'.heap.size/\(∀e∈es,EvOK (Zf Z Sh w'.heap.size) w'.heap.size e)/\Goe P Z Sh X A fr' l' w'):Goe P Z Sh X A fr l w:=by
 have h1:=fun τ p=>Classical.choose_spec (h τ p);have h2:=fun τ p=>Classical.choose_spec (h1 τ p);have h3:=fun τ p=>Classical.choose_spec (h2 τ p);have h4:=fun τ p=>Classical.choose_spec (h3 τ p);exact .step fr l w hI _ _ _ _ (fun τ p=>(h4 τ p).1) (fun τ p=>(h4 τ p).2.1) (fun τ p=>(h4 τ p).2.2.1) (fun τ p=>(h4 τ p).2.2.2)
def c0:Frame:={fn:=0,tmps:=#[],todo:=K0,defers:=[{target:=.nil,args:=#[]}],mode:=.run,kind:=.normal}
def a5N(A:Frame->World->Prop)(m:Machine):Prop:=∃F w,m=lone F [c0] w/\A F w
def Dead(P:Program)(A:Frame->World->Prop)(m:Machine):Prop:=∀i m',runN P i m=.next m'->¬a5N A m'
section
variable{A:Frame->World->Prop}
theorem Dead.of_step{m:Machine}(h0:¬a5N A m)(h:∀m',step P m=.next m'->Dead P A m'):Dead P A m:=by
 intro i m' hr
 cases i with
 | zero=>
  simp only[runN] at hr;injection hr with hr
  exact hr▸h0
 | succ i=>
  simp only[runN] at hr
  cases hs:step P m with
  | next m₁=>rw[hs] at hr;exact h m₁ hs i m' hr
  | ended o w=>rw[hs] at hr;cases hr
theorem a1A{F F':Frame}{cs cs':List Frame}{w w':World}(h:lone F cs w=lone F' cs' w'):F=F'/\cs=cs'/\w=w':=by
 unfold lone at h;injection h with h1 h2 h3;simp only[Array.mk.injEq,List.cons.injEq,Goroutine.mk.injEq] at h2;exact⟨h2.1.1,h2.1.2.1,h1⟩
theorem P5{F:Frame}{cs:List Frame}{w:World}(h0:¬a5N A (lone F cs w)){s:GStep}(hs:stepG P true {frame:=F,callers:=cs,status:=.running,dying:=none} w=s)(h:Stops s):Dead P A (lone F cs w):=by
 cases s<;>first|exact(h:False).elim|skip
 rename_i o w' es;refine Dead.of_step h0 fun m' hm=>?_;rw[step_lone_ended (o:=o) (w':=w') (by rw[hs];rfl)] at hm;cases hm
theorem a07{F F':Frame}{cs cs':List Frame}{w w':World}{es:Array Event}(h0:¬a5N A (lone F cs w))(hs:stepG P true {frame:=F,callers:=cs,status:=.running,dying:=none} w=.go {frame:=F',callers:=cs',status:=.running,dying:=none} w' es)
 (h:Dead P A (lone F' cs' w')):Dead P A (lone F cs w):=by
 refine Dead.of_step h0 fun m' hm=>?_;rw[step_lone_go (fr':=F') (cs':=cs') (w':=w') (by rw[hs];rfl)] at hm;injection hm with hm;exact hm▸h
variable(hA:∀F w,A F w->∀c,F.mode≠.panicking c)
include hA
theorem U8{F:Frame}{cs:List Frame}{w:World}{c:List PanicEntry}(h:F.mode=.panicking c):¬a5N A (lone F cs w):=by
 rintro⟨F',w',e,ha⟩;obtain⟨rfl,-,-⟩:=a1A e;exact hA _ _ ha c h
omit hA in
theorem a3p{F:Frame}{w:World}:¬a5N A (lone F [] w):=by
 rintro⟨F',w',e,ha⟩;obtain⟨-,h,-⟩:=a1A e;cases h
omit hA in
theorem a0R{F:Frame}{cs:List Frame}{w:World}{c:List PanicEntry}(h:F.mode=.panicking c):stepG P true {frame:=F,callers:=cs,status:=.running,dying:=none} w=unwind P true F cs none w:=by
 unfold stepG;dsimp only;rw[h]
omit hA in
theorem a2F{w:World}{c:List PanicEntry}:Dead P A (lone (c0.raise c) [] w):=by
 refine P5 a3p (a0R (c:=c) rfl) ?_;unfold unwind c0 Frame.raise;dsimp only;unfold callDeferred;dsimp only;exact trivial
variable{Z:Zone}{Sh:Nat->Prop}{X:Tmp->Prop}
theorem a8S(l:List Frame)(hnext:∀(c:List PanicEntry)(w:World),b1T (Zf Z Sh w.heap.size) X l->WPs Z Sh w->match (generalizing:=false) low l K0 [c0] with
 | []=>True
 | x::r=>Dead P A (lone (x.raise c) r w)) (hne:low l K0 [c0]≠[]):
 ∀(n:Nat)(fr:Frame)(w:World)(c:List PanicEntry),fr.defers.length=n->fr.mode=.panicking c->MarksP (Zf Z Sh w.heap.size) fr.defers->b1T (Zf Z Sh w.heap.size) X l->WPs Z Sh w->
 Dead P A (lone (ext fr (kk l K0)) (low l K0 [c0]) w):=by
 intro n
 induction n with
 | zero=>
  intro fr w c hn hm hd hl hW;have hd0:fr.defers=[]:=List.length_eq_zero_iff.1 hn;have hst:=a0R (P:=P) (F:=ext fr (kk l K0)) (cs:=low l K0 [c0]) (w:=w) (c:=c) hm;have hx:=hnext c w hl hW
  cases hlow:low l K0 [c0] with
  | nil=>exact absurd hlow hne
  | cons x r=>
   rw[hlow] at hst hx;by_cases hc:(ext fr (kk l K0)).catches P=true
   ·refine P5 (U8 hA hm) hst ?_;unfold unwind;rw[show(ext fr (kk l K0)).defers=[] from hd0,show(ext fr (kk l K0)).mode=.panicking c from hm];dsimp only;rw[if_pos hc];trivial
   ·refine a07 (U8 hA hm) (F':=x.raise c) (cs':=r) (w':=w) (es:=#[]) (hst.trans ?_) hx;unfold unwind;rw[show(ext fr (kk l K0)).defers=[] from hd0,show(ext fr (kk l K0)).mode=.panicking c from hm];dsimp only
    rw[if_neg hc]
 | succ n ih=>
  intro fr w c hn hm hd hl hW;have hst:=a0R (P:=P) (F:=ext fr (kk l K0)) (cs:=low l K0 [c0]) (w:=w) (c:=c) hm
  cases hds:fr.defers with
  | nil=>rw[hds] at hn;cases hn
  | cons d ds=>
   obtain⟨r,rfl,hr⟩:=hd d (by rw[hds];simp);rcases both (fun Z' hZ=>a3G (P:=P) (hZ.D _ hr)) hW with⟨v,u,es,k1,ha,hT,rfl,hW',hsz,hev⟩|⟨x,w',es,k1,ha,hT,hok,hsz,hW'⟩
   ·have e1:=hT w.tape w.drawn fun _ _ _=>rfl;rw[tp_self] at e1;refine a07 (U8 hA hm) (F':=ext {fr with defers:=ds} (kk l K0)) (cs':=low l K0 [c0]) (w':=tp u w.tape (w.drawn+k1)) (es:=seen P fr.fn es++#[]) (hst.trans ?_) (ih {fr with defers:=ds} _ c (by rw[hds] at hn;simpa using hn) hm (fun d hd'=>?_) (hl.mono (le_zf hsz)) (hW'.tp _ _))
    ·unfold unwind;rw[show(ext fr (kk l K0)).defers=_ from hds];dsimp only;rw[e1];rfl
    ·exact MarksP.mono (le_zf hsz) hd d (by rw[hds];exact List.mem_cons_of_mem _ hd')
   ·have e1:=hT w.tape w.drawn fun _ _ _=>rfl;rw[tp_self] at e1;refine P5 (U8 hA hm) hst ?_;unfold unwind;rw[show(ext fr (kk l K0)).defers=_ from hds];dsimp only;rw[e1];trivial
theorem b4V:∀(l:List Frame)(fr:Frame)(w:World)(c:List PanicEntry),fr.mode=.panicking c->MarksP (Zf Z Sh w.heap.size) fr.defers->b1T (Zf Z Sh w.heap.size) X l->WPs Z Sh w->
 Dead P A (lone (ext fr (kk l K0)) (low l K0 [c0]) w):=by
 intro l
 induction l with
 | nil=>exact fun fr w c hm hd hl hW=>a8S hA [] (fun c w _ _=>a2F) (by simp[low]) _ fr w c rfl hm hd hl hW
 | cons x l ih=>
  refine fun fr w c hm hd hl hW=>a8S hA (x::l) (fun c w hl hW=>?_) (by simp[low]) _ fr w c rfl hm hd hl hW;show Dead P A (lone ((ext x (kk l K0)).raise c) (low l K0 [c0]) w);rw[a1j];obtain⟨c',hc',hd'⟩:=raise_mode x c;exact ih _ w c' hc' (by rw[hd'];exact hl.1.1.1.defers) hl.2 hW
theorem b7J{fr:Frame}{w:World}(hI:Inv Z Sh X fr [] w)(hs:Stop fr [])(hn:¬A (ext fr K0) w):Dead P A (lone (ext fr K0) [c0] w):=by
 have h0:¬a5N A (lone (ext fr K0) [c0] w):=by
  rintro⟨F',w',e,ha⟩;obtain⟨rfl,-,rfl⟩:=a1A e;exact hn ha
 have hk:=hI.fr.1.kind;have hdead:∀(v:Value)(w:World),Dead P A (lone (c0.finish v) [] w):=fun v w=>P5 a3p rfl (by
  unfold stepG c0 Frame.finish K0;dsimp only;unfold stepG.exec;trivial)
 rcases hs.2 with⟨hm,ht⟩|⟨hm,hd⟩
 ·refine P5 h0 rfl ?_;obtain⟨fn,tmps,todo,defers,mode,kind,roundOf⟩:=fr;dsimp only at hm ht;subst hm ht;trivial
 ·have hst:stepG P true {frame:=ext fr K0,callers:=[c0],status:=.running,dying:=none} w=unwind P true (ext fr K0) [c0] none w:=by
   unfold stepG;dsimp only;rw[show(ext fr K0).mode=.returning from hm]
  have ed:(ext fr K0).defers=[]:=hd;have em:(ext fr K0).mode=.returning:=hm;have ek:(ext fr K0).kind=.normal:=hk
  cases hfn:P.funcs[fr.fn]? with
  | none=>
   refine a07 h0 (hst.trans ?_) (hdead ((ext fr K0).tmps.getD 0 undef) w) (es:=#[]);unfold unwind;rw[ed,em];dsimp only;rw[show(ext fr K0).fn=fr.fn from rfl,hfn];dsimp only;unfold doReturn
   rw[ek]
  | some fn=>
   cases hr:(results fn (ext fr K0).tmps).runT P w #[] with
   | mk r es=>
   cases r with
   | ok v u=>
    refine a07 h0 (hst.trans ?_) (hdead v u) (es:=seen P fr.fn es++#[]);unfold unwind;rw[ed,em];dsimp only;rw[show(ext fr K0).fn=fr.fn from rfl,hfn];dsimp only;rw[hr];dsimp only;unfold doReturn;rw[ek]
    rfl
   | halt x u=>
    refine P5 h0 hst ?_;unfold unwind;rw[ed,em];dsimp only;rw[show(ext fr K0).fn=fr.fn from rfl,hfn];dsimp only;rw[hr];cases x<;>trivial
omit hA in
structure Bd(P:Program)(Z:Zone)(Sh:Nat->Prop)(X:Tmp->Prop)(A:Frame->World->Prop) where
 fr:Frame
 l:List Frame
 w:World
 hI:Inv Z Sh X fr l w
 no:¬Goe P Z Sh X A fr l w
omit hA in
def Bd.at{P:Program}(b:Bd P Z Sh X A)(τ:Nat->Question->Nat)(p:Nat):Machine:=lone (ext b.fr (kk b.l K0)) (low b.l K0 [c0]) (tp b.w τ p)
omit hA in
structure Nxt(P:Program)(Z:Zone)(Sh:Nat->Prop)(X:Tmp->Prop)(A:Frame->World->Prop) where
 τ:Nat->Question->Nat
 p:Nat
 k:Nat
 nx:Option (Bd P Z Sh X A)
omit hA in
def b5Z(P:Program)(b:Bd P Z Sh X A)(n:Nxt P Z Sh X A):Prop:=∀τ p,Agree (tp b.w n.τ n.p) n.k τ p->
 match n.nx with
 | some b'=>step P (b.at τ p)=.next (b'.at τ (p+n.k))
 | none=>Dead P A (b.at τ p)
omit hA in
theorem Bd.notArr{b:Bd P Z Sh X A}(τ:Nat->Question->Nat)(p:Nat):¬a5N A (b.at τ p):=by
 rintro⟨F,w',e,ha⟩;obtain⟨rfl,e1,rfl⟩:=a1A e;obtain⟨fr,l,w,hI,no⟩:=b
 cases l with
 | nil=>exact no (.stop fr w hI τ p ha)
 | cons x l=>
  have:=congrArg List.length e1;cases l<;>simp[low] at this
omit hA in
theorem Inv.tp{fr:Frame}{l:List Frame}{w:World}(h:Inv Z Sh X fr l w)(τ:Nat->Question->Nat)(p:Nat):Inv Z Sh X fr l (Zn.tp w τ p):=⟨h.fr,h.low,h.W.tp τ p⟩
theorem b3k(hP:∀Z',Le Z Z'->PQK Z' P)(b:Bd P Z Sh X A):∃n:Nxt P Z Sh X A,b5Z P b n:=by
 obtain⟨fr,l,w,hI,no⟩:=b;by_cases hs:Stop fr l
 ·obtain rfl:l=[]:=hs.1;exact⟨⟨w.tape,w.drawn,0,none⟩,fun τ p _=>b7J hA (hI.tp τ p) hs (Bd.notArr (b:=⟨fr,[],w,hI,no⟩) τ p <| ⟨_,_,rfl,·⟩)⟩
 have h1:∃τ p,∀fr' l' w' es,Nx P fr l (Zn.tp w τ p) fr' l' w' es->w.heap.size<=w'.heap.size->(∀e∈es,EvOK (Zf Z Sh w'.heap.size) w'.heap.size e)->¬Goe P Z Sh X A fr' l' w':=by
  refine Classical.byContradiction fun hc=>no (.of_next hI fun τ p=>Classical.byContradiction fun hn=>hc ⟨τ,p,fun fr' l' w' es hx hsz hev hg=>hn ⟨fr',l',w',es,hx,hsz,hev,hg⟩⟩)
 obtain⟨τ,p,h1⟩:=h1;have h0:∀τ' p',¬a5N A (lone (ext fr (kk l K0)) (low l K0 [c0]) (Zn.tp w τ' p')):=fun τ' p'=>Bd.notArr (b:=⟨fr,l,w,hI,no⟩) τ' p'
 cases c2A (P:=P) hP (hI.tp τ p) hs with
 | go fr' l' w' es k a h hI' hsz he=>
  have hg:¬Goe P Z Sh X A fr' l' w':=by
   refine h1 fr' l' w' es (fun κ cs=>?_) hsz he;have:=h κ cs τ p fun _ _ _=>rfl;rw[tp_tp] at this;rw[this];have e:Zn.tp w' τ (p+k)=w':=by
    have e1:w'.tape = τ:=a.tape;have e2:w'.drawn=p+k:=a.drawn;rw[<-e1,<-e2];rfl
   rw[e]
  exact⟨⟨τ,p,k,some ⟨fr',l',w',hI',hg⟩⟩,fun τ' p' hA'=>step_lone_go (by
   have:=h K0 [c0] τ' p' hA';show(stepG P true (Gr fr l K0 [c0]) (Zn.tp w τ' p')).bare=_;rw[tp_tp] at this;rw[this]
   rfl)⟩
 | bad fr' c w' es k a h hm hd hW hsz=>
  exact⟨⟨τ,p,k,none⟩,fun τ' p' hA'=>a07 (h0 τ' p') (by
   have:=h K0 [c0] τ' p' hA';rw[tp_tp] at this
   exact this) (b4V hA l fr' (Zn.tp w' τ' (p'+k)) c hm hd (hI.low.mono (le_zf hsz)) (hW.tp _ _))⟩
 | stop k h=>
  exact⟨⟨τ,p,k,none⟩,fun τ' p' hA'=>P5 (h0 τ' p') rfl (by
   have:=h [c0] τ' p' hA';rw[tp_tp] at this;exact this)⟩
section path
variable(f:Bd P Z Sh X A->Nxt P Z Sh X A)(b0:Bd P Z Sh X A)
def path:Nat->Option (Bd P Z Sh X A)×Nat
 | 0=>(some b0,0)
 | i+1=>match (path i).1 with
  | none=>(none,(path i).2)
  | some b=>((f b).nx,(path i).2+(f b).k)
omit hA in
theorem b0F(i j:Nat)(h:i<=j):(path f b0 i).2<=(path f b0 j).2:=by
 induction j with
 | zero=>obtain rfl:i=0:=by omega
         exact Nat.le_refl _
 | succ j ih=>
  rcases Nat.lt_or_ge i (j+1) with h1|h1
  ·refine Nat.le_trans (ih (by omega)) ?_
   have e:path f b0 (j+1)=match (path f b0 j).1 with
    | none=>(none,(path f b0 j).2)
    | some b=>((f b).nx,(path f b0 j).2+(f b).k):=rfl
   rw[e]
   cases(path f b0 j).1 with
   | none=>exact Nat.le_refl _
   | some b=>exact Nat.le_add_right _ _
  ·obtain rfl:i=j+1:=by omega
   exact Nat.le_refl _
open Classical in
noncomputable def star(j:Nat)(q:Question):Nat:=
 if h:∃i b,(path f b0 i).1=some b/\(path f b0 i).2<=j/\j<(path f b0 i).2+(f b).k then
  (f h.choose_spec.choose).τ ((f h.choose_spec.choose).p+(j - (path f b0 h.choose).2)) q
 else 0
omit hA in
theorem b4W{i:Nat}{b:Bd P Z Sh X A}(hb:(path f b0 i).1=some b):Agree (Zn.tp b.w (f b).τ (f b).p) (f b).k (star f b0) (path f b0 i).2:=by
 intro j hj q;have hex:∃i' b',(path f b0 i').1=some b'/\(path f b0 i').2<=(path f b0 i).2+j/\(path f b0 i).2+j<(path f b0 i').2+(f b').k:=⟨i,b,hb,by omega,by omega⟩;unfold star;rw[dif_pos hex];obtain⟨hs1,hs2,hs3⟩:=hex.choose_spec.choose_spec;generalize hex.choose_spec.choose=b' at hs1 hs2 hs3⊢;generalize hex.choose=i' at hs1 hs2 hs3⊢;have hnext:∀(i:Nat)b,(path f b0 i).1=some b->(path f b0 (i+1)).2=(path f b0 i).2+(f b).k:=fun i b h=>by
  conv=>lhs;unfold path
  rw[h]
 have hi:i'=i:=by
  rcases Nat.lt_trichotomy i' i with h|h|h
  ·have:=b0F f b0 (i'+1) i (by omega);rw[hnext _ _ hs1] at this;omega
  ·exact h
  ·have:=b0F f b0 (i+1) i' (by omega);rw[hnext _ _ hb] at this;omega
 subst hi;rw[hb] at hs1;obtain rfl:=Option.some.inj hs1;show(f b).τ _ q=(f b).τ _ q;congr 1
 show(f b).p+_=(f b).p+j;omega
omit hA in
theorem b7K(hf:∀b,b5Z P b (f b))(i:Nat):(∃b,(path f b0 i).1=some b/\runN P i (b0.at (star f b0) 0)=.next (b.at (star f b0) (path f b0 i).2))\/(∃j b,j<i/\runN P j (b0.at (star f b0) 0)=.next (b.at (star f b0) (path f b0 j).2)/\Dead P A (b.at (star f b0) (path f b0 j).2)/\(path f b0 j).1=some b):=by
 induction i with
 | zero=>exact .inl ⟨b0,rfl,rfl⟩
 | succ i ih=>
  rcases ih with⟨b,hb,hr⟩|⟨j,b,hj,h⟩
  ·have hn:=hf b (star f b0) (path f b0 i).2 (b4W f b0 hb)
   cases hx:(f b).nx with
   | none=>
    rw[hx] at hn
    exact .inr ⟨i,b,by omega,hr,hn,hb⟩
   | some b'=>
    rw[hx] at hn;refine .inl ⟨b',?_,?_⟩
    ·conv=>lhs;unfold path
     rw[hb];exact hx
    ·rw[runN_add,hr];dsimp only;have:(path f b0 (i+1)).2=(path f b0 i).2+(f b).k:=by
      conv=>lhs;unfold path
      rw[hb]
     rw[this];dsimp only[runN];rw[hn]
  ·exact .inr ⟨j,b,by omega,h⟩
end path
theorem lone_goe(hP:∀Z',Le Z Z'->PQK Z' P){fr:Frame}{w:World}(hI:Inv Z Sh X fr [] w)(h:∀τ p,∃n m',runN P n (lone (ext fr K0) [c0] (Zn.tp w τ p))=.next m'/\a5N A m'):Goe P Z Sh X A fr [] w:=by
 refine Classical.byContradiction fun no=>?_
 let b0:Bd P Z Sh X A:=⟨fr,[],w,hI,no⟩
 have hf0:∀b:Bd P Z Sh X A,b5Z P b (Classical.choose (b3k hA hP b)):=fun b=>Classical.choose_spec (b3k hA hP b);obtain⟨f,hf⟩:∃f:Bd P Z Sh X A->Nxt P Z Sh X A,∀b,b5Z P b (f b):=⟨_,hf0⟩;obtain⟨n,m',hr,ha⟩:=h (star f b0) 0;rcases b7K f b0 hf n with⟨b,hb,hr'⟩|⟨j,b,hj,hr',hd,-⟩
 ·have e:b.at (star f b0) (path f b0 n).2=m':=by
   have:runN P n (b0.at (star f b0) 0)=.next m':=hr;rw[hr'] at this;injection this
  exact Bd.notArr _ _ (e▸ha)
 ·obtain⟨k,rfl⟩:∃k,n=j+k:=⟨n - j,by omega⟩;have:runN P (j+k) (b0.at (star f b0) 0)=.next m':=hr;rw[runN_add,hr'] at this;exact hd k m' this ha
end
end
end Go.Zn
namespace Go.Mc
section
open Go.Conc
open Go.ConcR (KK wgBlock WgAt stA smA rd wr mk DC0 Bk g_of_ofEvents)
open Go.ConcN (WgLive ShN WD CTag sumTo upd upd_same upd_ne cnt Vc Ssum pend isOpen isW3 isFin Mode)
variable(Z:Pz)
def Shp:Loc->Prop
 | .cell a=>a.block=Z.Wg\/a.block=Z.Al
 | _=>False
def Shun:Loc->Prop
 | .cell a=>Z.ShB a.block
 | .obj r=>Z.ShB r
 | _=>False
def a6i(l:Loc):Prop:=Shun Z l\/l.isMemory=false
def a8q(O:Nat->Nat->Prop)(i:Nat):Loc->Prop
 | .cell a=>O i a.block\/(a.block=Z.Cb/\a.spot=none/\myCell i a.off)
 | .obj r=>O i r
 | _=>False
def Rdp(bx:Nat->Nat)(i:Nat):Loc->Prop
 | .cell a=>Z.Eld a.block\/a.block=bx i
 | .obj r=>Z.Eld r\/r=bx i
 | _=>False
structure Geo(j:Nat)(w:World)(O:Nat->Nat->Prop)(bx:Nat->Nat)(x:Option Nat):Prop where
 size:Z.L0<=w.heap.size
 lt:∀i b,O i b->Z.L0<=b/\b<w.heap.size
 dj:∀i k b,O i b->O k b->i=k
 out:∀i b,j<=i->¬O i b
 nb:∀i k b,O i b->b≠bx k
 cur:∀i b,O i b->x≠some b
 bxl:∀k,Z.Eld (bx k)\/(k<j/\Z.L0<=bx k/\bx k<w.heap.size)
 xl:∀b,x=some b->Z.L0<=b/\b<w.heap.size/\∀k,bx k≠b
variable{Z}
theorem Geo.apart(hZ:a0a Z){j:Nat}{w:World}{O:Nat->Nat->Prop}{bx:Nat->Nat}{x:Option Nat}(h:Geo Z j w O bx x):Apart (Shp Z) (a6i Z) (a8q Z O) (Rdp Z bx):=by
 have e0:=fun b hb=>hZ.eld b hb;have hO:∀i b,O i b->¬Z.Eld b/\b≠Z.Wg/\b≠Z.Al/\b≠Z.Cb/\¬Z.ShB b:=fun i b hb=>by
  have h1:=(h.lt i b hb).1;refine⟨fun he=>?_,?_,?_,?_,fun hs=>?_⟩
  ·have:=(e0 b he).1;omega
  ·have:=hZ.W0;omega
  ·have:=hZ.A0;omega
  ·have:=hZ.C0;omega
  ·have:=(hZ.sh b hs).1;omega
 have hB:∀k,bx k≠Z.Wg/\bx k≠Z.Al/\bx k≠Z.Cb/\¬Z.ShB (bx k):=fun k=>by
  rcases h.bxl k with he|⟨_,h1,_⟩
  ·obtain⟨_,a,b,c,d⟩:=e0 _ he;exact⟨a,b,c,d⟩
  ·refine⟨?_,?_,?_,fun hs=>?_⟩
   ·have:=hZ.W0;omega
   ·have:=hZ.A0;omega
   ·have:=hZ.C0;omega
   ·have:=(hZ.sh _ hs).1;omega
 refine⟨fun i k l hi hk=>?_,fun i k l hi hk=>?_,fun i l hi hs=>?_,fun i l hi hs=>?_,fun i l hi hs=>?_,fun i l hi hs=>?_,fun l hl hs=>?_⟩
 ·cases l with
  | cell a=>
   rcases hi with hi|⟨h1,-,h2⟩<;>rcases hk with hk|⟨k1,-,k2⟩
   ·exact h.dj i k _ hi hk
   ·exact absurd k1 (hO i _ hi).2.2.2.1
   ·exact absurd h1 (hO k _ hk).2.2.2.1
   ·unfold myCell at h2 k2;omega
  | obj r=>exact h.dj i k r hi hk
  | _=>exact hi.elim
 ·cases l with
  | cell a=>
   rcases hi with hi|⟨h1,-,h2⟩
   ·rcases hk with hk|hk
    ·exact(hO i _ hi).1 hk
    ·exact h.nb i k _ hi hk
   ·rcases hk with hk|hk
    ·exact(e0 _ hk).2.2.2.1 h1
    ·exact(hB k).2.2.1 (hk.symm.trans h1)
  | obj r=>
   rcases hk with hk|hk
   ·exact(hO i _ hi).1 hk
   ·exact h.nb i k _ hi hk
  | _=>exact hi.elim
 ·cases l with
  | cell a=>
   rcases hi with hi|⟨h1,-,-⟩
   ·rcases hs with hs|hs
    ·exact(hO i _ hi).2.1 hs
    ·exact(hO i _ hi).2.2.1 hs
   ·rcases hs with hs|hs
    ·exact hZ.WC (hs.symm.trans h1)
    ·exact hZ.AC (hs.symm.trans h1)
  | _=>exact hs.elim
 ·cases l with
  | cell a=>
   rcases hi with hi|hi<;>rcases hs with hs|hs
   ·exact(e0 _ hi).2.1 hs
   ·exact(e0 _ hi).2.2.1 hs
   ·exact(hB i).1 (hi.symm.trans hs)
   ·exact(hB i).2.1 (hi.symm.trans hs)
  | _=>exact hs.elim
 ·rcases hs with hs|hs
  ·cases l with
   | cell a=>
    rcases hi with hi|⟨h1,-,-⟩
    ·exact(hO i _ hi).2.2.2.2 hs
    ·exact(hZ.sh _ hs).2.2.2 h1
   | obj r=>exact(hO i _ hi).2.2.2.2 hs
   | _=>exact hi.elim
  ·cases l<;>first|exact(hi:False).elim|cases hs
 ·rcases hs with hs|hs
  ·cases l with
   | cell a=>
    rcases hi with hi|hi
    ·exact(e0 _ hi).2.2.2.2 hs
    ·exact(hB i).2.2.2 (hi▸hs)
   | obj r=>
    rcases hi with hi|hi
    ·exact(e0 _ hi).2.2.2.2 hs
    ·exact(hB i).2.2.2 (hi▸hs)
   | _=>exact hi.elim
  ·cases l<;>first|exact(hi:False).elim|cases hs
 ·cases l with
  | cell a=>
   rcases hs with hs|hs
   ·rcases hl with hl|hl
    ·exact(hZ.sh _ hs).2.1 hl
    ·exact(hZ.sh _ hs).2.2.1 hl
   ·cases hs
  | _=>exact hl.elim
section
variable[Go.ConcR.Payload]{i bxi:Nat}{O:Nat->Prop}{w w₁:World}
theorem rw_lib(hZ:a0a Z)(h:RW Z i bxi O w w₁):ConcN.RW Z.ty Z.Wg Z.e0 Z.n 0 (1 - 1) w w₁:=by
 have e:=h.eld _ hZ.e0;exact⟨fun b hb=>absurd hb (by omega),h.live,fun⟨cs,h1,h2⟩=>⟨cs,e.trans h1,h2⟩,ConcN.cell_of_block e _⟩
theorem WS.rely(hZ:a0a Z){s d:Nat}{T:Tr}{g:Goroutine}(h:WS Z i bxi O s T d g w)(hr:RW Z i bxi O w w₁):WS Z i bxi O s T d g w₁:=by
 cases h with
 | work T g w h=>exact .work T g w₁ (Wk.rely (R:=RW Z i bxi) (fun y a b c h k=>RW.trans Z h k) h hr)
 | rest s m d g w hs h hR=>exact .rest s m d g w₁ hs (h.rely (rw_lib hZ hr)) (hZ.res _ _ _ _ _ hr.size hr.box hr.own hr.cell hR)
theorem WS.status{s d:Nat}{T:Tr}{g:Goroutine}(h:WS Z i bxi O s T d g w):g.status=.running\/g.status=.finished:=by
 cases h with
 | work T g w h=>exact .inl (Wk.running (fun _ _ _ x=>x.1.1) (RW.refl Z _ _ _ w) h)
 | rest s m d g w hs h hR=>exact h.status
theorem WS.woken{s d:Nat}{T:Tr}{g:Goroutine}(h:WS Z i bxi O s T d g w)(a a':Goroutine)(w':World):Go.Conc.woken Z.P a a' w' g=g:=by
 unfold Go.Conc.woken;split
 ·exact again_running _ h.status
 ·rfl
theorem WS.running_of{s d:Nat}{T:Tr}{g:Goroutine}(h:WS Z i bxi O s T d g w)(hs:s≠1):g.status=.running:=by
 cases h with
 | work T g w h=>exact Wk.running (fun _ _ _ x=>x.1.1) (RW.refl Z _ _ _ w) h
 | rest s m d g w _ h hR=>exact h.running_of hs
end
section
variable[Go.ConcR.Payload](Z)(Cont AnchW:Goroutine->World->Prop)
def Fin(x:Option Nat)(g:Goroutine)(w:World):Prop:=x=none/\∃T,W0 Z (AtKd Z AnchW) T x g w
inductive CS:CTag->Nat->Tr->Nat->Option Nat->Goroutine->World->Prop
 | skd {r:Nat} {T:Tr} {x:Option Nat} {g:Goroutine} {w:World}:r<Z.n->W0 Z (AtKdS Z (Z.n - (r+1)) (Spawns Z (Fin Z AnchW) r)) T x g w->CS (.sp r 5) (Z.n - (r+1)) T 0 x g w
 | sa1 {r:Nat} {T:Tr} {x:Option Nat} {g:Goroutine} {w:World}:r<Z.n->W0 Z (AtA1 Z (Z.n - (r+1)) (Spawns Z (Fin Z AnchW) r)) T x g w->CS (.sp r 4) (Z.n - (r+1)) T 1 x g w
 | ske {r:Nat} {T:Tr} {x:Option Nat} {g:Goroutine} {w:World}:r<Z.n->W0 Z (AtKeS Z (Z.n - (r+1)) (Spawns Z (Fin Z AnchW) r)) T x g w->CS (.sp r 3) (Z.n - (r+1)) T 1 x g w
 | sgo {r:Nat} {T:Tr} {x:Option Nat} {g:Goroutine} {w:World}:r<Z.n->W0 Z (AtGoS Z (Z.n - (r+1)) (Spawns Z (Fin Z AnchW) r)) T x g w->CS (.sp r 2) (Z.n - (r+1)) T 0 x g w
 | kd {T:Tr} {x:Option Nat} {g:Goroutine} {w:World}:W0 Z (AtKd Z AnchW) T x g w->CS .kd Z.n T 0 x g w
 | anch {T:Tr} {x:Option Nat} {g:Goroutine} {w:World}:W0 Z (fun _=>AnchW) T x g w->CS .anch Z.n T 1 x g w
 | w1 {T:Tr} {x:Option Nat} {g:Goroutine} {w:World}:W0 Z (AtW1 Z Cont AnchW) T x g w->CS .w1 Z.n T 1 x g w
 | w2 {vs:Nat} {T:Tr} {x:Option Nat} {g:Goroutine} {w:World}:W0 Z (AtW2 Z Cont AnchW vs) T x g w->CS (.w2 vs) Z.n T 1 x g w
 | w3 {T:Tr} {x:Option Nat} {g:Goroutine} {w:World}:W0 Z (AtW3 Z Cont) T x g w->CS .w3 Z.n T 1 x g w
 | blk {T:Tr} {x:Option Nat} {g:Goroutine} {w:World}:(∀w₁,R0 Z x w w₁->AtW3 Z Cont x g w₁)->CS .blk Z.n T 1 x {g with status:=.blocked} w
 | w4 {T:Tr} {x:Option Nat} {g:Goroutine} {w:World}:W0 Z (AtW4 Z Cont) T x g w->CS .w4 Z.n T 1 x g w
 | ke {T:Tr} {x:Option Nat} {g:Goroutine} {w:World}:W0 Z (AtKe Z Cont) T x g w->CS .ke Z.n T 1 x g w
 | acq {T:Tr} {x:Option Nat} {g:Goroutine} {w:World}:W0 Z (AtAcq Z Cont) T x g w->CS .acq Z.n T 0 x g w
end
section
variable[Go.ConcR.Payload]{Cont AnchW:Goroutine->World->Prop}{tag:CTag}{j d:Nat}{T:Tr}{x:Option Nat}{a:Goroutine}{w w':World}
theorem CS.rely(h:CS Z Cont AnchW tag j T d x a w)(hr:R0 Z x w w'):CS Z Cont AnchW tag j T d x a w':=by
 have tr:∀y p q r,R0 Z y p q->R0 Z y q r->R0 Z y p r:=fun _ _ _ _ h1 h2=>R0.trans Z h1 h2
 cases h with
 | skd hn h=>exact .skd hn (Wk.rely tr h hr)
 | sa1 hn h=>exact .sa1 hn (Wk.rely tr h hr)
 | ske hn h=>exact .ske hn (Wk.rely tr h hr)
 | sgo hn h=>exact .sgo hn (Wk.rely tr h hr)
 | kd h=>exact .kd (Wk.rely tr h hr)
 | anch h=>exact .anch (Wk.rely tr h hr)
 | w1 h=>exact .w1 (Wk.rely tr h hr)
 | w2 h=>exact .w2 (Wk.rely tr h hr)
 | w3 h=>exact .w3 (Wk.rely tr h hr)
 | blk h=>exact .blk fun w₂ h₂=>h w₂ (tr _ _ _ _ hr h₂)
 | w4 h=>exact .w4 (Wk.rely tr h hr)
 | ke h=>exact .ke (Wk.rely tr h hr)
 | acq h=>exact .acq (Wk.rely tr h hr)
theorem CS.status(hAr:∀g w,AnchW g w->g.status=.running)(h:CS Z Cont AnchW tag j T d x a w):(a.status=.running/\tag≠.blk)\/(a.status=.blocked/\tag=.blk):=by
 cases h with
 | skd _ h=>exact .inl ⟨Wk.running (fun _ _ _ x=>x.1) (R0.refl Z _ w) h,by simp⟩
 | sa1 _ h=>exact .inl ⟨Wk.running (fun _ _ _ x=>x.1) (R0.refl Z _ w) h,by simp⟩
 | ske _ h=>exact .inl ⟨Wk.running (fun _ _ _ x=>x.1) (R0.refl Z _ w) h,by simp⟩
 | sgo _ h=>exact .inl ⟨Wk.running (fun _ _ _ x=>x.1) (R0.refl Z _ w) h,by simp⟩
 | kd h=>exact .inl ⟨Wk.running (fun _ _ _ x=>x.1) (R0.refl Z _ w) h,by simp⟩
 | anch h=>exact .inl ⟨Wk.running (fun _ g w x=>hAr g w x) (R0.refl Z _ w) h,by simp⟩
 | w1 h=>exact .inl ⟨Wk.running (fun _ _ _ x=>x.1) (R0.refl Z _ w) h,by simp⟩
 | w2 h=>exact .inl ⟨Wk.running (fun _ _ _ x=>x.1) (R0.refl Z _ w) h,by simp⟩
 | w3 h=>exact .inl ⟨Wk.running (fun _ _ _ x=>x.1) (R0.refl Z _ w) h,by simp⟩
 | blk h=>exact .inr ⟨rfl,rfl⟩
 | w4 h=>exact .inl ⟨Wk.running (fun _ _ _ x=>x.1) (R0.refl Z _ w) h,by simp⟩
 | ke h=>exact .inl ⟨Wk.running (fun _ _ _ x=>x.1) (R0.refl Z _ w) h,by simp⟩
 | acq h=>exact .inl ⟨Wk.running (fun _ _ _ x=>x.1) (R0.refl Z _ w) h,by simp⟩
theorem CS.wokenBy(hAr:∀g w,AnchW g w->g.status=.running)(h:CS Z Cont AnchW tag j T d x a w)(hr:R0 Z x w w')(g g':Goroutine):
 ∃tag' T',CS Z Cont AnchW tag' j T' d x (woken Z.P g g' w' a) w'/\(tag'=tag\/(tag=.blk/\tag'=.w3))/\(mayWake Z.P g=true->g'.status=.running->tag'≠.blk):=by
 have h':=h.rely hr;unfold Go.Conc.woken;split
 ·rcases h'.status hAr with⟨hs,hne⟩|⟨_,rfl⟩
  ·exact⟨tag,T,by rw[again_running _ (.inl hs)];exact h',.inl rfl,fun _ _=>hne⟩
  ·cases h' with
   | blk hb=>
    rename_i g0;have h3:=hb w' (R0.refl Z x w');exact⟨.w3,.leaf,by rw[Go.ConcR.again_blocked h3.1 h3.2.1];exact .w3 (Wk.stop hb),.inr ⟨rfl,rfl⟩,fun _ _=>by simp⟩
 ·rename_i hc;exact⟨tag,T,h',.inl rfl,fun h1 h2=>absurd (by simp[h1,h2]) hc⟩
end
end
section
open Go.Conc
open Go.ConcR (KK wgBlock WgAt stA smA rd wr mk DC0 Bk g_of_ofEvents)
open Go.ConcN (WgLive ShN WD CTag sumTo upd upd_same upd_ne cnt Vc Ssum pend isOpen isW3 isFin Mode)
variable{Z:Pz}{j:Nat}{w w':World}{O:Nat->Nat->Prop}{bx:Nat->Nat}{x x':Option Nat}{es:Array Event}{i:Nat}
theorem a2N{ty:TypeId}{Wg:Nat}{w w':World}(e:w'.heap[Wg]?=w.heap[Wg]?)(h:WgLive ty Wg w):WgLive ty Wg w':=by
 obtain⟨st,sm,h⟩:=h;exact⟨st,sm,h.of_block e⟩
theorem a0A.of(e:w'.heap[Z.Al]?=w.heap[Z.Al]?)(h:a0A Z w):a0A Z w':=by
 obtain⟨v,h⟩:=h;exact⟨v,e.trans h⟩
theorem a0r.of(e:w'.heap[Z.Cb]?=w.heap[Z.Cb]?)(h:a0r Z w):a0r Z w':=by
 obtain⟨cs,h1,h2⟩:=h;exact⟨cs,e.trans h1,h2⟩
theorem b6U{i k n:Nat}(h:myCell i n)(hne:i≠k):¬myCell k n:=by unfold myCell at *;omega
section
variable{O':Nat->Prop}(hZ:a0a Z)(hg:Geo Z j w O bx x)(h:DW Z i (bx i) (O i) O' w w' es)
include hZ hg h
theorem a2O{b:Nat}(hb:b<Z.L0)(h1:b≠Z.Al)(h2:b≠Z.Cb):w'.heap[b]?=w.heap[b]?:=
 h.old b (by have:=hg.size;omega) (fun ho=>by have:=(hg.lt i b ho).1;omega) h1 h2
theorem a8r{b:Nat}(hb:Z.L0<=b)(hs:b<w.heap.size)(hn:¬O i b):w'.heap[b]?=w.heap[b]?:=
 h.old b hs hn (by have:=hZ.A0;omega) (by have:=hZ.C0;omega)
theorem b6V{k:Nat}(hk:k≠i):RW Z k (bx k) (O k) w w':=by
 have el:∀b,Z.Eld b->w'.heap[b]?=w.heap[b]?:=fun b hb=>by
  obtain⟨h1,h2,h3,h4,h5⟩:=hZ.eld b hb;exact a2O hZ hg h h1 h3 h4
 refine⟨h.size,el,?_,fun b hb=>?_,fun hl=>a2N (a2O hZ hg h hZ.W0 hZ.WA hZ.WC) hl,h.al,h.cb,fun n hn=>h.cell n (b6U hn hk)⟩
 ·rcases hg.bxl k with he|⟨_,h1,h2⟩
  ·exact el _ he
  ·exact a8r hZ hg h h1 h2 fun ho=>hg.nb i k _ ho rfl
 ·obtain⟨h1,h2⟩:=hg.lt k b hb;exact a8r hZ hg h h1 h2 fun ho=>hk (hg.dj k i b hb ho)
theorem b35:R0 Z x w w':=by
 refine⟨h.size,fun b hb=>?_,fun b hb=>?_,fun hl=>a2N (a2O hZ hg h hZ.W0 hZ.WA hZ.WC) hl,fun b hb=>?_⟩
 ·obtain⟨h1,h2,h3,h4,h5⟩:=hZ.eld b hb;exact a2O hZ hg h h1 h3 h4
 ·obtain⟨h1,h2,_⟩:=hg.xl b hb;exact a8r hZ hg h h1 h2 fun ho=>hg.cur i b ho hb
 ·obtain⟨h1,h2,h3,h4⟩:=hZ.sh b hb;exact a2O hZ hg h h1 h3 h4
theorem b9h(hij:i<j):Geo Z j w' (upd O i O') bx x:=by
 have key:∀k b,upd O i O' k b->O k b\/(k=i/\O' b/\w.heap.size<=b):=fun k b hb=>by
  by_cases e:k=i
  ·subst e;rw[upd_same] at hb;exact(h.new b hb).imp id fun y=>⟨rfl,hb,y⟩
  ·rw[upd_ne O _ e] at hb;exact .inl hb
 have hsz:=h.size;refine⟨Nat.le_trans hg.size h.size,fun k b hb=>?_,fun k m b hk hm=>?_,fun k b hk hb=>?_,fun k m b hb=>?_,fun k b hb=>?_,fun k=>(hg.bxl k).imp id fun y=>⟨y.1,y.2.1,by omega⟩,fun b hb=>⟨(hg.xl b hb).1,by have:=(hg.xl b hb).2.1;omega,(hg.xl b hb).2.2⟩⟩
 ·rcases key k b hb with h1|⟨_,h2,h3⟩
  ·have:=hg.lt k b h1;omega
  ·have:=h.in_ b h2;have:=hg.size;omega
 ·rcases key k b hk with h1|⟨h1,h2,h3⟩<;>rcases key m b hm with k1|⟨k1,k2,k3⟩
  ·exact hg.dj k m b h1 k1
  ·have:=(hg.lt k b h1).2;omega
  ·have:=(hg.lt m b k1).2;omega
  ·rw[h1,k1]
 ·rcases key k b hb with h1|⟨h1,_,_⟩
  ·exact hg.out k b hk h1
  ·omega
 ·rcases key k b hb with h1|⟨_,_,h3⟩
  ·exact hg.nb k m b h1
  ·intro e;rcases hg.bxl m with he|⟨_,_,h4⟩
   ·have:=(hZ.eld _ he).1;have:=hg.size;omega
   ·omega
 ·rcases key k b hb with h1|⟨_,_,h3⟩
  ·exact hg.cur k b h1
  ·intro e;have:=(hg.xl b e).2.1;omega
theorem c4N(hij:i<j){t:Trace}(ct:CT Z.c (Shp Z) (a6i Z) (a8q Z O) (Rdp Z bx) t j)(low:∀op∈t,op.act.low w.heap.size)(fn:FuncId)(pos:String):
 CT Z.c (Shp Z) (a6i Z) (a8q Z (upd O i O')) (Rdp Z bx) (t++MemOp.ofEvents (Z.c+i) fn pos es) j:=by
 have ap:=(b9h hZ hg h hij).apart hZ;refine CT.appW ap (ct.grow (fun k l hl=>?_) fun k l hl=>?_) hij fun op hop=>?_
 ·by_cases e:k=i
  ·subst e
   cases l with
   | cell a=>exact hl.imp (fun y=>by rw[upd_same];exact h.more _ y) id
   | obj r=>show upd O k O' k r;rw[upd_same];exact h.more r hl
   | _=>exact hl
  ·cases l with
   | cell a=>exact hl.imp (fun y=>by rw[upd_ne O _ e];exact y) id
   | obj r=>show upd O i O' k r;rw[upd_ne O _ e];exact hl
   | _=>exact hl
 ·by_cases e:k=i
  ·subst e;have unt:∀{b:Nat}{l:Loc},w.heap.size<=b->(∀n,l.low n->b<n)->∀m a,touchAt t m=some a->a.loc≠l:=fun{b l}hb hl m a ha e=>by
    obtain⟨y,hy,hya⟩:=touch_of ha;have:=hl _ (e▸b0j (low y (Array.mem_of_getElem? hy)) hya);omega
   cases l with
   | cell a=>
    rcases hl with hl|hl
    ·rw[upd_same] at hl;rcases h.new _ hl with h1|h1
     ·exact .inl (.inl h1)
     ·exact .inr (unt h1 fun n hn=>hn)
    ·exact .inl (.inr hl)
   | obj r=>
    have hl':O' r:=by have:upd O k O' k r:=hl;rwa [upd_same] at this
    rcases h.new _ hl' with h1|h1
    ·exact .inl h1
    ·exact .inr (unt h1 fun n hn=>hn)
   | _=>exact .inl hl
  ·left
   cases l with
   | cell a=>exact hl.imp (fun y=>by rwa [upd_ne O _ e] at y) id
   | obj r=>have:upd O i O' k r:=hl;rwa [upd_ne O _ e] at this
   | _=>exact hl
 ·obtain⟨e,he,rfl⟩:=Go.Conc.mem_ofEvents hop;refine⟨rfl,fun y hy=>?_⟩;have hev:=h.ev e he;obtain⟨loc,wr,sy⟩:=e;unfold EvW at hev
  cases loc with
  | cell a=>
   rw[show MemAct.ofEvent ⟨.cell a,wr,sy⟩=.access ⟨.cell a,wr,sy⟩ from rfl] at hy;simp only[MemAct.touch?,Option.some.injEq] at hy;subst hy;obtain⟨_,⟨h1,h2⟩|⟨h1,h2|h2|⟨h2,h3⟩⟩⟩:=hev
   ·dsimp only at h2;subst h2;exact .inl ⟨.inr h1,by simp,by simp⟩
   ·exact .inr (.inl (.inl (by rw[upd_same];exact h2)))
   ·exact .inr (.inl (.inr h2))
   ·exact .inr (.inr ⟨h2,h3⟩)
  | obj r=>
   dsimp only at hev;obtain⟨_,h1,h2⟩:=hev;subst h1;have hy':y=⟨.obj r,wr,.plain⟩:=by
    cases wr<;>(simp only[MemAct.ofEvent,MemAct.touch?,Option.some.injEq] at hy;exact hy.symm)
   subst hy';rcases h2 with h2|h2
   ·exact .inr (.inl (by show upd O i O' i r;rw[upd_same];exact h2))
   ·exact .inr (.inr h2)
  | mark m=>
   cases m<;>first|exact(hev:False).elim|(simp only[MemAct.ofEvent,MemAct.touch?] at hy;cases hy)
  | _=>exact(hev:False).elim
end
section
variable(hZ:a0a Z)(hg:Geo Z j w O bx x)(h:Conc.Aside Z.Wg w w')(hl:WgLive Z.ty Z.Wg w')
include hZ hg h hl
theorem a6j(k:Nat):RW Z k (bx k) (O k) w w':=by
 have nW:∀b,Z.L0<=b->b≠Z.Wg:=fun b hb=>by have:=hZ.W0;omega
 refine⟨Nat.le_of_eq h.size.symm,fun b hb=>h.block b (hZ.eld b hb).2.1,h.block _ ?_,fun b hb=>h.block b (nW b (hg.lt k b hb).1),fun _=>hl,a0A.of (h.block _ (Ne.symm hZ.WA)),a0r.of (h.block _ (Ne.symm hZ.WC)),fun n _=>ConcN.cell_of_block (h.block _ (Ne.symm hZ.WC)) n⟩;rcases hg.bxl k with he|⟨_,h1,_⟩
 ·exact(hZ.eld _ he).2.1
 ·exact nW _ h1
theorem a8s:R0 Z x w w':=by
 refine⟨Nat.le_of_eq h.size.symm,fun b hb=>h.block b (hZ.eld b hb).2.1,fun b hb=>h.block b ?_,fun _=>hl,fun b hb=>h.block b (hZ.sh b hb).2.1⟩;have:=(hg.xl b hb).1;have:=hZ.W0;omega
theorem b9i:Geo Z j w' O bx x:=by
 have e:=h.size;exact⟨by rw[e];exact hg.size,fun i b hb=>by rw[e];exact hg.lt i b hb,hg.dj,hg.out,hg.nb,hg.cur,fun k=>by rw[e];exact hg.bxl k,fun b hb=>by rw[e];exact hg.xl b hb⟩
end
theorem c3s{g:Nat}{fn:FuncId}{pos:String}(hes:∀e∈es,Bk Z.Wg e){Own Rd:Nat->Loc->Prop}(hg:g=Z.c+i):∀op∈MemOp.ofEvents g fn pos es,OkW Z.c (Shp Z) Own Rd i op:=by
 intro op hop;obtain⟨e,he,rfl⟩:=Go.Conc.mem_ofEvents hop;refine⟨hg,fun y hy=>?_⟩;rcases hes e he with h1|h1|⟨a,wr,rfl,hb⟩
 ·rw[Go.ConcR.ofEvent_loc_mark h1] at hy;cases hy
 ·rw[Go.ConcR.ofEvent_loc_mark h1] at hy;cases hy
 ·rw[Go.ConcR.ofEvent_cell] at hy;simp only[MemAct.touch?,Option.some.injEq] at hy;subst hy;exact .inl ⟨.inl hb,by simp,by simp⟩
theorem c3t{fn:FuncId}{pos:String}(hes:∀e∈es,Bk Z.Wg e){Own Rd:Nat->Loc->Prop}:∀op∈MemOp.ofEvents 0 fn pos es,Ok0 (Shp Z) (a6i Z) Own Rd j op:=by
 intro op hop;obtain⟨e,he,rfl⟩:=Go.Conc.mem_ofEvents hop;refine⟨rfl,fun y hy=>?_⟩;rcases hes e he with h1|h1|⟨a,wr,rfl,hb⟩
 ·rw[Go.ConcR.ofEvent_loc_mark h1] at hy;cases hy
 ·rw[Go.ConcR.ofEvent_loc_mark h1] at hy;cases hy
 ·rw[Go.ConcR.ofEvent_cell] at hy;simp only[MemAct.touch?,Option.some.injEq] at hy;subst hy;exact .inl ⟨.inl hb,by simp⟩
section
variable(hZ:a0a Z)(hg:Geo Z j w O bx x)(h:D0 Z x x' w w' es)
include hZ hg h
theorem a00{b:Nat}(hb:b<Z.L0):w'.heap[b]?=w.heap[b]?:=
 h.old b (by have:=hg.size;omega) fun e=>by have:=(hg.xl b e).1;omega
theorem b36(k:Nat):RW Z k (bx k) (O k) w w':=by
 have el:∀b,Z.Eld b->w'.heap[b]?=w.heap[b]?:=fun b hb=>a00 hZ hg h (hZ.eld b hb).1;refine⟨h.size,el,?_,fun b hb=>h.old b (hg.lt k b hb).2 (hg.cur k b hb),a2N (a00 hZ hg h hZ.W0),a0A.of (a00 hZ hg h hZ.A0),a0r.of (a00 hZ hg h hZ.C0),fun n _=>ConcN.cell_of_block (a00 hZ hg h hZ.C0) n⟩;rcases hg.bxl k with he|⟨_,h1,h2⟩
 ·exact el _ he
 ·exact h.old _ h2 fun e=>(hg.xl _ e).2.2 k rfl
theorem b9j:Geo Z j w' O bx x':=by
 have hsz:=h.size;have hbx:∀k,bx k<w.heap.size:=fun k=>by
  rcases hg.bxl k with he|⟨_,_,h2⟩
  ·have:=(hZ.eld _ he).1;have:=hg.size;omega
  ·exact h2
 refine⟨Nat.le_trans hg.size h.size,fun k b hb=>⟨(hg.lt k b hb).1,by have:=(hg.lt k b hb).2;omega⟩,hg.dj,hg.out,hg.nb,fun k b hb=>?_,fun k=>(hg.bxl k).imp id fun y=>⟨y.1,y.2.1,by omega⟩,fun b hb=>?_⟩
 ·rcases h.cur with e|e|⟨n,e,h1,h2⟩
  ·rw[e];exact hg.cur k b hb
  ·rw[e];simp
  ·rw[e];intro e';have:=(hg.lt k b hb).2;injection e' with e';omega
 ·rcases h.cur with e|e|⟨n,e,h1,h2⟩
  ·rw[e] at hb;exact⟨(hg.xl b hb).1,by have:=(hg.xl b hb).2.1;omega,(hg.xl b hb).2.2⟩
  ·rw[e] at hb;cases hb
  ·rw[e] at hb;injection hb with hb;subst hb;exact⟨Nat.le_trans hg.size h1,h2,fun k e'=>by have:=hbx k;omega⟩
theorem c4O{fn:FuncId}{pos:String}:∀op∈MemOp.ofEvents 0 fn pos es,Ok0 (Shp Z) (a6i Z) (a8q Z O) (Rdp Z bx) j op:=by
 have hg':=b9j hZ hg h;intro op hop;obtain⟨e,he,rfl⟩:=Go.Conc.mem_ofEvents hop;refine⟨rfl,fun y hy=>?_⟩;have hev:=h.ev e he;obtain⟨loc,wr,sy⟩:=e;unfold Ev0 at hev
 cases loc with
 | cell a=>
  rw[show MemAct.ofEvent ⟨.cell a,wr,sy⟩=.access ⟨.cell a,wr,sy⟩ from rfl] at hy;simp only[MemAct.touch?,Option.some.injEq] at hy;subst hy;obtain⟨_,_,⟨h1,h2⟩|h1⟩:=hev
  ·obtain⟨a1,a2,a3,a4,a5⟩:=hZ.eld _ h1;refine .inr ⟨fun hs=>hs.elim a2 a3,fun ho=>ho.elim a5 (by simp[Loc.isMemory]),fun k _ hk=>?_,fun hw=>by dsimp only at hw h2;rw[h2] at hw;cases hw⟩;rcases hk with hk|⟨hk,_⟩
   ·have:=(hg.lt k _ hk).1;omega
   ·exact a4 hk
  ·obtain⟨b1,b2,b3⟩:=hg'.xl _ h1;refine .inr ⟨fun hs=>?_,fun ho=>?_,fun k _ hk=>?_,fun _ k _ hk=>?_⟩
   ·have:=hZ.W0;have:=hZ.A0;rcases hs with hs|hs<;>omega
   ·rcases ho with ho|ho
    ·have:=(hZ.sh _ ho).1;omega
    ·simp[Loc.isMemory] at ho
   ·rcases hk with hk|⟨hk,_⟩
    ·exact hg'.cur k _ hk h1
    ·have:=hZ.C0;omega
   ·rcases hk with hk|hk
    ·have:=(hZ.eld _ hk).1;omega
    ·exact b3 k hk.symm
 | obj r=>
  dsimp only at hev;obtain⟨_,h1,h2,h3⟩:=hev;subst h1;subst h3;simp only[MemAct.ofEvent,MemAct.touch?,Option.some.injEq] at hy;subst hy;obtain⟨a1,a2,a3,a4,a5⟩:=hZ.eld _ h2
  exact .inr ⟨fun hs=>hs,fun ho=>ho.elim a5 (by simp[Loc.isMemory]),fun k _ hk=>by have:=(hg.lt k _ hk).1;omega,fun hw=>by cases hw⟩
 | mark m=>
  dsimp only at hev;rcases hev with hev|⟨a,hm,hb⟩
  ·cases m<;>first|exact(hev:False).elim|(simp only[MemAct.ofEvent,MemAct.touch?] at hy;cases hy)
  ·rcases hm with rfl|rfl<;>(simp only[MemAct.ofEvent,MemAct.touch?,Option.some.injEq] at hy;subst hy;exact .inl ⟨.inl hb,by simp⟩)
 | _=>exact(hev:False).elim
end
end
section
open Go.Conc
open Go.ConcR (KK wgBlock WgAt stA smA rd wr mk DC0 Bk g_of_ofEvents)
open Go.ConcN (WgLive ShN WD CTag sumTo upd upd_same upd_ne cnt Vc Ssum pend isOpen isW3 isFin phi phi_mono phi_retag norel_of Deaf_absent get_map_set get_map_set_same sumTo_upd sumTo_congr)
variable[Go.ConcR.Payload](Z:Pz)(Cont AnchW:Goroutine->World->Prop)(t0:Trace)(B0:Nat)(w0:World)
structure Com(j:Nat)(gs:Array Goroutine)(w:World)(t:Trace)(D:Nat->WD)(O:Nat->Nat->Prop)(bx:Nat->Nat)(T:Nat->Tr)(q:Nat->Nat)(d0:Nat)(x:Option Nat):Prop where
 size:gs.size=Z.c+j
 old:∀i g,0<i->i<Z.c->gs[i]?=some g->QuitsD Z.P (q i) (Deaf t i) g
 wk:∀i,i<j->∃g,gs[Z.c+i]?=some g/\WS Z i (bx i) (O i) (D i).stage (T i) (D i).deaf g w
 geo:Geo Z j w O bx x
 ct:CT Z.c (Shp Z) (a6i Z) (a8q Z O) (Rdp Z bx) t j
 norel:NoRelease (stA Z.Wg) t
 deaf0:Deaf t 0=d0
 deafW:∀i,i<j->Deaf t (Z.c+i)=(D i).deaf
 rel:∀i,i<j->(D i).stage<=6->∃r,Rel Z.Wg t (Z.c+i) r
 elder:∀b,Z.Eld b\/Z.ShB b->w.heap[b]?=w0.heap[b]?
 al:a0A Z w
 cb:a0r Z w
 low:∀op∈t,op.act.low w.heap.size
 sfx:∃u,t=t0++u/\∀op∈u,op.g=0\/op.act.touch?=none\/∃i,i<j/\op.g=Z.c+i
 env:w.tape=w0.tape/\w.os=w0.os/\w.output=w0.output
def eOf:CTag->Nat
 | .w3=>1
 | _=>0
def Inv(μ:Mu)(m:Machine)(t:Trace):Prop:=
 ∃(gs:Array Goroutine)(w:World)(sl:Option (Nat×Nat))(j:Nat)(D:Nat->WD)(O:Nat->Nat->Prop)(bx:Nat->Nat)(T:Nat->Tr)(q:Nat->Nat)(tag:CTag)(T0:Tr)(d0:Nat)(x:Option Nat)(a:Goroutine)(st sm:Int),
  m=crowd gs w sl/\gs[0]?=some a/\CS Z Cont AnchW tag j T0 d0 x a w/\Com Z t0 w0 j gs w t D O bx T q d0 x/\WgAt Z.ty Z.Wg w st sm/\ConcN.Mode j D tag st sm/\
  μ = ⟨phi Z.n (Vc j D) tag+Ssum j D+sumTo Z.c q,T,T0,eOf tag⟩
variable{Z Cont AnchW t0 w0}
variable{gs:Array Goroutine}{w w':World}{sl:Option (Nat×Nat)}{j:Nat}{t:Trace}{D:Nat->WD}{O:Nat->Nat->Prop}{bx:Nat->Nat}{T:Nat->Tr}{q:Nat->Nat}{tag:CTag}{T0:Tr}{d0:Nat}{x:Option Nat}{a:Goroutine}{st sm:Int}
theorem CS.bound(h:CS Z Cont AnchW tag j T0 d0 x a w):j+pend tag<=Z.n:=by
 cases h<;>simp only[pend]<;>(try simp)<;>omega
theorem a5u{B B':Nat}{t v:Trace}(h:∀op∈t,op.act.low B)(hB:B<=B')(hv:∀op∈v,op.act.low B'):∀op∈t++v,op.act.low B':=
 fun op hop=>(Array.mem_append.1 hop).elim (fun x=>MemAct.low_mono hB (h op x)) (hv op)
theorem b37{B g:Nat}{fn:FuncId}{pos:String}{es:Array Event}(h:∀e∈es,(MemAct.ofEvent e).low B):∀op∈MemOp.ofEvents g fn pos es,op.act.low B:=fun op hop=>by
 obtain⟨e,he,rfl⟩:=Go.Conc.mem_ofEvents hop;exact h e he
theorem workerStep(hZ:a0a Z)(hAr:∀g w,AnchW g w->g.status=.running)
 (ha:gs[0]?=some a)(hcs:CS Z Cont AnchW tag j T0 d0 x a w)(hcom:Com Z t0 w0 j gs w t D O bx T q d0 x)
 {i:Nat}(hi:i<j){g g':Goroutine}{es:Array Event}{s' dd':Nat}{T':Tr}{O':Nat->Prop}{st' sm':Int}(hg:gs[Z.c+i]?=some g)(hgo:stepG Z.P false g w=.go g' w' es)
 (hR0:R0 Z x w w')(hRW:∀k,k<j->k≠i->RW Z k (bx k) (O k) w w')(hgeo:Geo Z j w' (upd O i O') bx x)
 (hct:CT Z.c (Shp Z) (a6i Z) (a8q Z (upd O i O')) (Rdp Z bx) (t++MemOp.ofEvents (Z.c+i) g.frame.fn g.frame.place es) j)
 (hs':WS Z i (bx i) O' s' T' dd' g' w')(hnr:∀e∈es,e.loc≠.mark (.release (stA Z.Wg)))(hdeaf:deafBehind (D i).deaf es=dd')
 (hrel:s'<=6->∃r,Rel Z.Wg (t++MemOp.ofEvents (Z.c+i) g.frame.fn g.frame.place es) (Z.c+i) r)
 (hal:a0A Z w')(hcb:a0r Z w')(hlow:∀e∈es,(MemAct.ofEvent e).low w'.heap.size)(henv:w'.tape=w.tape/\w'.os=w.os/\w'.output=w.output)(hwg:WgAt Z.ty Z.Wg w' st' sm')
 (hmode:∀tag',(tag'=tag\/(tag=.blk/\tag'=.w3))->(mayWake Z.P g=true->g'.status=.running->tag'≠.blk)->ConcN.Mode j (upd D i ⟨s',0,dd'⟩) tag' st' sm')
 (hlt:(s'<(D i).stage/\cnt ⟨s',0,dd'⟩<=cnt (D i))\/(s'=(D i).stage/\a3l T' (T i))):
 ∃m₁ ops μ',runT Z.P (crowd gs w sl) (Z.c+i)=(.next m₁,ops)/\a3H Z.n μ' ⟨phi Z.n (Vc j D) tag+Ssum j D+sumTo Z.c q,T,T0,eOf tag⟩/\Inv Z Cont AnchW t0 w0 μ' m₁ (t++ops):=by
 obtain⟨tag',T0',hcs',htag,hwk⟩:=hcs.wokenBy hAr hR0 g g';have hc:=hZ.c;have h0:(Z.c+i==0)=false:=by simp;omega
 have hrun:=runT_crowd_go (P:=Z.P) (sl:=sl) (i:=Z.c+i) hg (by rw[h0];exact hgo);have e1:=sumTo_upd D (⟨s',0,dd'⟩:WD) cnt hi;have e2:=sumTo_upd D (⟨s',0,dd'⟩:WD) WD.stage hi;have hbd:=hcs.bound;have hgs:Z.c+i<gs.size:=by rw[hcom.size];omega
 refine⟨_,_,⟨phi Z.n (Vc j (upd D i ⟨s',0,dd'⟩)) tag'+Ssum j (upd D i ⟨s',0,dd'⟩)+sumTo Z.c q,upd T i T',T0',eOf tag'⟩,hrun,?_,
  _,w',sl,j,upd D i ⟨s',0,dd'⟩,upd O i O',bx,upd T i T',q,tag',T0',d0,x,woken Z.P g g' w' a,st',sm',rfl,by rw[get_map_set _ _ _ _ (by omega),ha];rfl,hcs',?_,hwg,hmode tag' htag hwk,rfl⟩
 ·simp only[Vc,Ssum] at *;rcases hlt with⟨h1,h2⟩|⟨h1,h2⟩
  ·refine .stage _ _ ?_;dsimp only;rw[phi_retag Z.n _ htag];have:=phi_mono Z.n (v':=sumTo j fun a=>cnt (upd D i ⟨s',0,dd'⟩ a)) (v:=sumTo j fun a=>cnt (D a)) (by omega) tag;omega
  ·have ec:cnt (⟨s',0,dd'⟩:WD)=cnt (D i):=by simp only[cnt,h1]
   have ev:(sumTo j fun a=>cnt (upd D i ⟨s',0,dd'⟩ a))=sumTo j fun a=>cnt (D a):=by omega
   have es':(sumTo j fun a=>(upd D i ⟨s',0,dd'⟩ a).stage)=sumTo j fun a=>(D a).stage:=by omega
   refine .worker _ _ ?_ ⟨i,by omega,by dsimp only;rw[upd_same];exact h2,fun k hk=>upd_ne T _ hk⟩;dsimp only;rw[phi_retag Z.n _ htag,ev,es']
 ·refine⟨by simp[hcom.size],fun k y hk hkc hy=>?_,fun k hk=>?_,hgeo,hct,hcom.norel.app (norel_of hnr),by rw[Deaf_other _ (by omega) _ g_of_ofEvents,hcom.deaf0],fun k hk=>?_,fun k hk hst=>?_,fun b hb=>(hb.elim (hR0.eld b) (hR0.shb b)).trans (hcom.elder b hb),hal,hcb,a5u hcom.low hR0.size (b37 hlow),?_,⟨henv.1.trans hcom.env.1,henv.2.1.trans hcom.env.2.1,henv.2.2.trans hcom.env.2.2⟩⟩
  ·rw[get_map_set _ _ _ _ (by omega)] at hy;obtain⟨z,hz,rfl⟩:=Option.map_eq_some_iff.1 hy;have hq:=hcom.old k z hk hkc hz;rw[woken_quitsD hq,Deaf_other _ (by omega) _ g_of_ofEvents];exact hq
  ·by_cases e:k=i
   ·subst e;exact⟨g',get_map_set_same _ _ _ hgs,by rw[upd_same,upd_same,upd_same];exact hs'⟩
   ·obtain⟨y,hy,hsy⟩:=hcom.wk k hk;refine⟨y,by rw[get_map_set _ _ _ _ (by omega),hy,Option.map_some,hsy.woken],?_⟩;rw[upd_ne D _ e,upd_ne T _ e,upd_ne O _ e];exact hsy.rely hZ (hRW k hk e)
  ·by_cases e:k=i
   ·subst e;rw[Deaf_own,hcom.deafW k hk,upd_same];exact hdeaf
   ·rw[Deaf_other _ (by omega) _ g_of_ofEvents,hcom.deafW k hk,upd_ne D _ e]
  ·by_cases e:k=i
   ·subst e;rw[upd_same] at hst;exact hrel hst
   ·rw[upd_ne D _ e] at hst;obtain⟨r,hr⟩:=hcom.rel k hk hst;exact⟨r,hr.appNot fun op hop=>by rw[g_of_ofEvents op hop];omega⟩
  ·obtain⟨u,rfl,hu⟩:=hcom.sfx;refine⟨u++MemOp.ofEvents (Z.c+i) g.frame.fn g.frame.place es,Array.append_assoc,fun op hop=>?_⟩;rcases Array.mem_append.1 hop with h|h
   ·exact hu op h
   ·exact .inr (.inr ⟨i,hi,g_of_ofEvents op h⟩)
theorem callerStep(hZ:a0a Z)(ha:gs[0]?=some a)(hcom:Com Z t0 w0 j gs w t D O bx T q d0 x)
 {a':Goroutine}{es:Array Event}{tag':CTag}{T0':Tr}{x':Option Nat}{st' sm':Int}(hgo:stepG Z.P true a w=.go a' w' es)
 (hRW:∀k,k<j->RW Z k (bx k) (O k) w w')(hel:∀b,Z.Eld b\/Z.ShB b->w'.heap[b]?=w.heap[b]?)(hsz:w.heap.size<=w'.heap.size)(hgeo:Geo Z j w' O bx x')
 (hok:∀op∈MemOp.ofEvents 0 a.frame.fn a.frame.place es,Ok0 (Shp Z) (a6i Z) (a8q Z O) (Rdp Z bx) j op)(hnr:∀e∈es,e.loc≠.mark (.release (stA Z.Wg)))
 (hal:a0A Z w')(hcb:a0r Z w')(hlow:∀e∈es,(MemAct.ofEvent e).low w'.heap.size)(henv:w'.tape=w.tape/\w'.os=w.os/\w'.output=w.output)
 (hcs':CS Z Cont AnchW tag' j T0' (deafBehind d0 es) x' a' w')(hwg:WgAt Z.ty Z.Wg w' st' sm')(hmode:ConcN.Mode j D tag' st' sm')
 (hlt:phi Z.n (Vc j D) tag'<phi Z.n (Vc j D) tag\/(phi Z.n (Vc j D) tag'=phi Z.n (Vc j D) tag/\(a3l T0' T0\/(T0'=T0/\eOf tag'<eOf tag)))):
 ∃m₁ ops μ',runT Z.P (crowd gs w sl) 0=(.next m₁,ops)/\a3H Z.n μ' ⟨phi Z.n (Vc j D) tag+Ssum j D+sumTo Z.c q,T,T0,eOf tag⟩/\Inv Z Cont AnchW t0 w0 μ' m₁ (t++ops):=by
 have hrun:=runT_crowd_go (P:=Z.P) (sl:=sl) (i:=0) ha (by simpa using hgo);have hc:=hZ.c;refine⟨_,_,⟨phi Z.n (Vc j D) tag'+Ssum j D+sumTo Z.c q,T,T0',eOf tag'⟩,hrun,?_,
  _,w',sl,j,D,O,bx,T,q,tag',T0',deafBehind d0 es,x',a',st',sm',rfl,get_map_set_same _ _ _ (by rw[hcom.size];omega),hcs',?_,hwg,hmode,rfl⟩
 ·rcases hlt with h|⟨h1,h2|⟨h2,h3⟩⟩
  ·exact .stage _ _ (by dsimp only;omega)
  ·exact .starter _ _ (by dsimp only;rw[h1]) rfl h2
  ·exact .blocks _ _ (by dsimp only;rw[h1]) rfl h2 h3
 ·refine⟨by simp[hcom.size],fun k y hk hkc hy=>?_,fun k hk=>?_,hgeo,hcom.ct.app0 hc (hcom.geo.apart hZ) hok,hcom.norel.app (norel_of hnr),by rw[Deaf_own,hcom.deaf0],fun k hk=>by rw[Deaf_other _ (by omega) _ g_of_ofEvents,hcom.deafW k hk],fun k hk hst=>?_,fun b hb=>(hel b hb).trans (hcom.elder b hb),hal,hcb,a5u hcom.low hsz (b37 hlow),?_,⟨henv.1.trans hcom.env.1,henv.2.1.trans hcom.env.2.1,henv.2.2.trans hcom.env.2.2⟩⟩
  ·rw[get_map_set _ _ _ _ (by omega)] at hy;obtain⟨z,hz,rfl⟩:=Option.map_eq_some_iff.1 hy;have hq:=hcom.old k z hk hkc hz;rw[woken_quitsD hq,Deaf_other _ (by omega) _ g_of_ofEvents];exact hq
  ·obtain⟨y,hy,hsy⟩:=hcom.wk k hk;exact⟨y,by rw[get_map_set _ _ _ _ (by omega),hy,Option.map_some,hsy.woken],hsy.rely hZ (hRW k hk)⟩
  ·obtain⟨r,hr⟩:=hcom.rel k hk hst;exact⟨r,hr.appNot fun op hop=>by rw[g_of_ofEvents op hop];omega⟩
  ·obtain⟨u,rfl,hu⟩:=hcom.sfx;refine⟨u++MemOp.ofEvents 0 a.frame.fn a.frame.place es,Array.append_assoc,fun op hop=>?_⟩;rcases Array.mem_append.1 hop with h|h
   ·exact hu op h
   ·exact .inl (g_of_ofEvents op h)
theorem b38(hZ:a0a Z)(hAr:∀g w,AnchW g w->g.status=.running)(ha:gs[0]?=some a)(hcs:CS Z Cont AnchW tag j T0 d0 x a w)(hcom:Com Z t0 w0 j gs w t D O bx T q d0 x)(hwg:WgAt Z.ty Z.Wg w st sm)(hmode:ConcN.Mode j D tag st sm)
 (hgeoS:R0 Z x w w){i:Nat}(h0:0<i)(hi:i<Z.c){g:Goroutine}(hg:gs[i]?=some g)(hrun:g.status=.running):
 ∃m₁ ops μ',runT Z.P (crowd gs w sl) i=(.next m₁,ops)/\a3H Z.n μ' ⟨phi Z.n (Vc j D) tag+Ssum j D+sumTo Z.c q,T,T0,eOf tag⟩/\Inv Z Cont AnchW t0 w0 μ' m₁ (t++ops):=by
 have hq:=hcom.old i g h0 hi hg
 cases hqi:q i with
 | zero=>rw[hqi] at hq;rw[hq.1] at hrun;cases hrun
 | succ k=>
  rw[hqi] at hq;rcases hq with⟨hf,_⟩|⟨_,g',es,hm,hstp,hq'⟩
  ·rw[hf] at hrun;cases hrun
  have hi0:(i==0)=false:=by simp;omega
  have hrunT:=runT_crowd_go (P:=Z.P) (sl:=sl) (i:=i) hg (by rw[hi0];exact hstp w);have hlt:i<gs.size:=(Array.getElem?_eq_some_iff.1 hg).1;have hsum:sumTo Z.c (upd q i k)+(k+1)=sumTo Z.c q+k:=by
   have:=sumTo_upd q k id hi;simpa [hqi] using this
  obtain⟨tag',T0',hcs',htag,_⟩:=hcs.wokenBy hAr hgeoS g g';have htouch:∀op∈MemOp.ofEvents i g.frame.fn g.frame.place es,op.act.touch?=none:=fun op hop=>by
   obtain⟨e,he,rfl⟩:=Go.Conc.mem_ofEvents hop;exact touch_mute (hm e he)
  refine⟨_,_,⟨phi Z.n (Vc j D) tag'+Ssum j D+sumTo Z.c (upd q i k),T,T0',eOf tag'⟩,hrunT,.stage _ _ (by dsimp only;rw[phi_retag Z.n _ htag];omega),
   _,w,sl,j,D,O,bx,T,upd q i k,tag',T0',d0,x,woken Z.P g g' w a,st,sm,rfl,by rw[get_map_set _ _ _ _ (by omega),ha];rfl,hcs',?_,hwg,hmode.retag htag,rfl⟩
  refine⟨by simp[hcom.size],fun m y hk hkc hy=>?_,fun m hk=>?_,hcom.geo,hcom.ct.appMute (by omega) g_of_ofEvents htouch,hcom.norel.app (norel_of fun e he hl=>?_),by rw[Deaf_other _ (by omega) _ g_of_ofEvents,hcom.deaf0],fun m hk=>by rw[Deaf_other _ (by omega) _ g_of_ofEvents,hcom.deafW m hk],fun m hk hst=>?_,hcom.elder,hcom.al,hcom.cb,a5u hcom.low (Nat.le_refl _) (b37 fun e he=>low_mute (hm e he) _),?_,hcom.env⟩
  ·by_cases e:m=i
   ·subst e;rw[get_map_set_same _ _ _ hlt] at hy;obtain rfl:=Option.some.inj hy;rw[upd_same,Deaf_own];exact hq'
   ·rw[get_map_set _ _ _ _ (Ne.symm e)] at hy;obtain⟨z,hz,rfl⟩:=Option.map_eq_some_iff.1 hy;have hq:=hcom.old m z hk hkc hz;rw[woken_quitsD hq,upd_ne q k e,Deaf_other _ (by omega) _ g_of_ofEvents];exact hq
  ·obtain⟨y,hy,hsy⟩:=hcom.wk m hk;exact⟨y,by rw[get_map_set _ _ _ _ (by omega),hy,Option.map_some,hsy.woken],hsy⟩
  ·have:=hm e he;rw[show e=⟨.mark (.release (stA Z.Wg)),e.write,e.sync⟩ by rw[<-hl]] at this;cases this
  ·obtain⟨r,hr⟩:=hcom.rel m hk hst;exact⟨r,hr.appNot fun op hop=>by rw[g_of_ofEvents op hop];omega⟩
  ·obtain⟨u,rfl,hu⟩:=hcom.sfx;refine⟨u++MemOp.ofEvents i g.frame.fn g.frame.place es,Array.append_assoc,fun op hop=>?_⟩;rcases Array.mem_append.1 hop with h|h
   ·exact hu op h
   ·exact .inr (.inl (htouch op h))
end
end Go.Mc
