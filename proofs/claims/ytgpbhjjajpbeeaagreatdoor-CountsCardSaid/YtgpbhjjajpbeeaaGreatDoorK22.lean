/- A part of what the last file proves. -/
import Derived.Test.YtgpbhjjajpbeeaaGreatDoorK19
import Derived.Test.YtgpbhjjajpbeeaaGreatDoorK21
import Derived.Conc.CompanyCalls
set_option linter.all false
namespace Go.To
section
open Go.Conc
open Go.ConcN (sumTo upd sumTo_upd upd_ne upd_same)
open Zn (ext low kk Gr K0 Nx tp tp_self tp_tp)
class Lo where
 n:Nat
def Tr[Lo](Sh:Nat->Prop)(b:Nat):Prop:=Lo.n<=b/\Sh b
def Shn[Lo](Sh:Nat->Prop):Loc->Prop
 | .cell a=>Tr Sh a.block
 | .obj r=>Tr Sh r
 | _=>False
set_option linter.unusedSectionVars false
variable[Lo]
structure Ctx(P:Program)(Sh:Nat->Prop)(gs:Array Goroutine)(t:Trace)(q:Nat->Nat)(B:Nat):Prop where
 L:Leavers P t gs q
 past:Past (Shn Sh) B t
 gsb:∀(i:Nat)(op:MemOp),t[i]?=some op->op.g<gs.size
 lo:Lo.n<=B
def ToB(P:Program)(B:Nat)(g:Goroutine)(w:World)(Sh:Nat->Prop)(Ψ:Goroutine->World->(Nat->Prop)->Prop):Prop:=
 ∀τ p gs sl t q,gs[0]?=some g->Ctx P Sh gs t q B->∃N gs' w' sl' t' q' Sh' g' τ' p',runNT P N (crowd gs (tp w τ p) sl) t=(.next (crowd gs' (tp w' τ' p') sl'),t')/\gs'[0]?=some g'/\Ctx P Sh' gs' t' q' w'.heap.size/\Ψ g' w' Sh'
abbrev To(P:Program)(g:Goroutine)(w:World)(Sh:Nat->Prop)(Ψ:Goroutine->World->(Nat->Prop)->Prop):Prop:=ToB P w.heap.size g w Sh Ψ
variable{P:Program}{g:Goroutine}{w:World}{Sh:Nat->Prop}{Ψ Ψ':Goroutine->World->(Nat->Prop)->Prop}{B B':Nat}
theorem To.done(h:Ψ g w Sh):To P g w Sh Ψ:=fun τ p gs sl t q h0 hc=>⟨0,gs,w,sl,t,q,Sh,g,τ,p,rfl,h0,hc,h⟩
theorem To.to_tp{τ:Nat->Question->Nat}{p:Nat}(h:To P g w Sh Ψ):To P g (tp w τ p) Sh Ψ:=fun τ' p' gs sl t q h0 hc=>h τ' p' gs sl t q h0 hc
theorem ToB.to_tp{τ:Nat->Question->Nat}{p:Nat}(h:ToB P B g w Sh Ψ):ToB P B g (tp w τ p) Sh Ψ:=fun τ' p' gs sl t q h0 hc=>h τ' p' gs sl t q h0 hc
theorem Ctx.own{t:Trace}{q:Nat->Nat}{gs:Array Goroutine}{w':World}{es:Array Event}{a':Goroutine}{fn:FuncId}{pos:String}(hlt:0<gs.size)(hc:Ctx P Sh gs t q B)(hsz:B<=B')(hev:∀e∈es,EvL (Shn Sh) B' e):
 Ctx P Sh ((gs.map (woken P g a' w')).setIfInBounds 0 a') (t++MemOp.ofEvents 0 fn pos es) q B':=by
 refine⟨⟨fun j x hj hx=>?_,fun j hj=>?_⟩,(hc.past.mono hsz).own hev,fun i op hi=>?_,Nat.le_trans hc.lo hsz⟩
 ·have hne:0≠j:=by omega
  rw[Array.getElem?_setIfInBounds_ne hne,Array.getElem?_map] at hx;obtain⟨y,hy,rfl⟩:=Option.map_eq_some_iff.1 hx;have hq:=hc.L.old j y hj hy;rw[woken_quitsD hq,Deaf_other t (by omega) _ (fun op hop=>by obtain⟨e,_,rfl⟩:=Go.Conc.mem_ofEvents hop;rfl)];exact hq
 ·rw[Deaf_other t (g':=0) (by simp at hj;omega) _ (fun op hop=>by obtain⟨e,_,rfl⟩:=Go.Conc.mem_ofEvents hop;rfl)];exact hc.L.above j (by simpa using hj)
 ·have es:((gs.map (woken P g a' w')).setIfInBounds 0 a').size=gs.size:=by simp
  rw[es];rcases getElem?_append_cases hi with⟨_,h⟩|⟨_,h⟩
  ·exact hc.gsb i op h
  ·obtain⟨e,_,rfl⟩:=Go.Conc.mem_ofEvents h;exact hlt
theorem ToB.step(hrun:g.status=.running)(h:∀τ p,∃g' w' es B',stepG P true g (tp w τ p)=.go g' w' es/\B<=B'/\(∀e∈es,EvL (Shn Sh) B' e)/\ToB P B' g' w' Sh Ψ):ToB P B g w Sh Ψ:=by
 have key:∀M gs τ p sl t q,sumTo gs.size q<=M->gs[0]?=some g->Ctx P Sh gs t q B->
  ∃N gs' w' sl' t' q' Sh' g' τ' p',runNT P N (crowd gs (tp w τ p) sl) t=(.next (crowd gs' (tp w' τ' p') sl'),t')/\gs'[0]?=some g'/\Ctx P Sh' gs' t' q' w'.heap.size/\Ψ g' w' Sh':=by
  intro M
  induction M using Nat.strongRecOn with
  | _ M ih=>
  intro gs τ p sl t q hM h0 hc;have haw:∀g∈gs,awake g:=by
   intro y hy;obtain⟨i,hi,rfl⟩:=Array.mem_iff_getElem.1 hy;rcases Nat.eq_zero_or_pos i with rfl|hpos
   ·have:gs[0]=g:=by simpa [Array.getElem?_eq_getElem hi] using h0
    rw[this];exact awake_of (.inl hrun)
   ·exact awake_of ((hc.L.old i _ hpos (Array.getElem?_eq_getElem hi)).status.elim .inl fun x=>.inr (.inr x))
  obtain⟨i,y,d,sl',hi,hg,hst⟩:=crowd_pick (P:=P) (w:=tp w τ p) (sl:=sl) haw ⟨0,g,h0,hrun⟩;rcases Nat.eq_zero_or_pos i with rfl|hpos
  ·obtain rfl:y=g:=by rw[h0] at hi;exact(Option.some.inj hi).symm
   obtain⟨g',w',es,B',hgo,hsz,hev,hto⟩:=h τ d;have hrunT:=runT_crowd_go (P:=P) (sl:=sl') (i:=0) hi (show stepG P (0==0) y ((tp w τ p).at d)=_ from hgo);have hlt:0<gs.size:=(Array.getElem?_eq_some_iff.1 h0).1;obtain⟨N,r⟩:=hto w'.tape w'.drawn _ sl' _ q (show((gs.map (woken P y g' w')).setIfInBounds 0 g')[0]?=some g' by simp[hlt]) (hc.own (g:=y) (a':=g') (fn:=y.frame.fn) (pos:=y.frame.place) hlt hsz hev);obtain⟨gs',w'',sl'',t',q',Sh',g'',τ',p',h1,h2⟩:=r;exact⟨N+1,gs',w'',sl'',t',q',Sh',g'',τ',p',by simp only[runNT,hst,hrunT];rw[tp_self] at h1;exact h1,h2⟩
  ·have hq:=hc.L.old i y hpos hi;have hi0:(i==0)=false:=by simp;omega
   have hlt:i<gs.size:=(Array.getElem?_eq_some_iff.1 hi).1
   cases hqi:q i with
   | zero=>rw[hqi] at hq;rw[hq.1] at hg;cases hg
   | succ k=>
    rw[hqi] at hq;rcases hq with⟨hf,_⟩|⟨_,g',es,hm,hstp,hq'⟩
    ·rw[hf] at hg;cases hg
    have hrunT:=runT_crowd_go (P:=P) (sl:=sl') (i:=i) hi (by rw[hi0];exact hstp (tp w τ d));have hsz:((gs.map (woken P y g' (tp w τ d))).setIfInBounds i g').size=gs.size:=by simp
    have hsum:sumTo gs.size (upd q i k)+(k+1)=sumTo gs.size q+k:=by
     have:=sumTo_upd q k id hlt;simpa [hqi] using this
    obtain⟨N,gs',w'',sl'',t',q',Sh',g'',τ',p',h1,h2⟩:=ih (sumTo gs.size (upd q i k)) (by omega) ((gs.map (woken P y g' (tp w τ d))).setIfInBounds i g') τ d sl' (t++MemOp.ofEvents i y.frame.fn y.frame.place es) (upd q i k) (by rw[hsz];omega)
     (by
       have hne:i≠0:=by omega
       rw[Array.getElem?_setIfInBounds_ne hne,Array.getElem?_map,h0];simp[woken_run hrun])
     ⟨⟨fun j x hj hx=>by
      by_cases hji:i=j
      ·subst hji;rw[Array.getElem?_setIfInBounds_self_of_lt (by simpa using hlt)] at hx;obtain rfl:=Option.some.inj hx;rw[upd_same,Deaf_own];exact hq'
      ·rw[Array.getElem?_setIfInBounds_ne hji,Array.getElem?_map] at hx;obtain⟨z,hz,rfl⟩:=Option.map_eq_some_iff.1 hx;have hqj:=hc.L.old j z hj hz;rw[woken_quitsD hqj,upd_ne q k (Ne.symm hji),Deaf_other t hji _ (fun op hop=>by obtain⟨e,_,rfl⟩:=Go.Conc.mem_ofEvents hop;rfl)];exact hqj,fun j hj=>by
      rw[Deaf_other t (g':=i) (by simp at hj;omega) _ (fun op hop=>by obtain⟨e,_,rfl⟩:=Go.Conc.mem_ofEvents hop;rfl)];exact hc.L.above j (by simpa using hj)⟩,hc.past.mute (by omega) hm,fun k' op hk=>by
      rw[hsz];rcases getElem?_append_cases hk with⟨_,h⟩|⟨_,h⟩
      ·exact hc.gsb k' op h
      ·obtain⟨e,_,rfl⟩:=Go.Conc.mem_ofEvents h;exact hlt,hc.lo⟩
    exact⟨N+1,gs',w'',sl'',t',q',Sh',g'',τ',p',by simp only[runNT,hst,show runT P (crowd gs ((tp w τ p).at d) sl') i=_ from hrunT];exact h1,h2⟩
 exact fun τ p gs sl t q h0 hc=>key _ gs τ p sl t q (Nat.le_refl _) h0 hc
theorem To.step(hrun:g.status=.running)(h:∀τ p,∃g' w' es,stepG P true g (tp w τ p)=.go g' w' es/\w.heap.size<=w'.heap.size/\(∀e∈es,EvL (Shn Sh) w'.heap.size e)/\To P g' w' Sh Ψ):To P g w Sh Ψ:=
 ToB.step hrun fun τ p=>let ⟨g',w',es,h1,h2,h3,h4⟩:=h τ p;⟨g',w',es,_,h1,h2,h3,h4⟩
theorem ToB.move{g':Goroutine}(hrun:g.status=.running)(h:∀w,stepG P true g w=.go g' w)(k:ToB P B g' w Sh Ψ):ToB P B g w Sh Ψ:=
 .step hrun fun τ p=>⟨g',tp w τ p,#[],B,h _,Nat.le_refl _,by simp,k.to_tp⟩
theorem To.move{g':Goroutine}(hrun:g.status=.running)(h:∀w,stepG P true g w=.go g' w)(k:To P g' w Sh Ψ):To P g w Sh Ψ:=ToB.move hrun h k
variable{Z:Zn.Zone}{X:Tmp->Prop}{A:Frame->World->Prop}
theorem b7E{B n:Nat}{e:Event}(h:Zn.EvOK (Zn.Zf Z Sh n) B e):EvL (Shn Sh) B e:=by
 obtain⟨loc,wr,sy⟩:=e;unfold Zn.EvOK at h
 cases loc with
 | cell a=>
  obtain⟨h1,h2,h3⟩:=h;refine⟨fun x hx hs=>?_,by simp,by simp,?_⟩
  ·rw[ofEvent_cell0] at hx;simp only[MemAct.touch?,Option.some.injEq] at hx;subst hx;exact absurd hs.2 h2.2
  ·rw[ofEvent_cell0];exact h3
 | obj r=>
  obtain⟨h1,h2,h3⟩:=h;dsimp only at h1;subst h1;refine⟨fun x hx hs=>?_,by simp,by simp,?_⟩
  ·have e:MemAct.ofEvent ⟨.obj r,wr,false⟩=.access ⟨.obj r,wr,false⟩:=by cases wr<;>rfl
   rw[e] at hx;simp only[MemAct.touch?,Option.some.injEq] at hx;subst hx;exact absurd hs.2 h2.2
  ·cases wr<;>exact h3
 | mark m=>
  refine⟨fun x hx hs=>?_,?_,?_,?_⟩
  ·exfalso;revert h hx;cases m<;>simp[Zn.MarkOK,MemAct.ofEvent,MemAct.touch?]
  ·rintro e;cases e;exact h
  ·rintro e;cases e;exact h
  ·dsimp only at h
   cases m<;>first|exact(h:False).elim|trivial
 | output=>
  refine⟨fun x hx hs=>?_,by simp,by simp,?_⟩
  ·dsimp only at h;subst h;have e:MemAct.ofEvent ⟨.output,wr,false⟩=.access ⟨.output,wr,false⟩:=by cases wr<;>rfl
   rw[e] at hx;simp only[MemAct.touch?,Option.some.injEq] at hx;subst hx;exact(hs:False).elim
  ·dsimp only at h;subst h
   cases wr<;>trivial
 | goroutines=>exact(h:False).elim
theorem To.goe{fr:Frame}{l:List Frame}(h:Zn.Goe P Z Sh X A fr l w){κ:List Item}{cs:List Frame}
 (k:∀fr' w' τ p,Zn.Inv Z Sh X fr' [] w'->w.heap.size<=w'.heap.size->A (ext fr' K0) (tp w' τ p)->To P (Gr fr' [] κ cs) w' Sh Ψ):To P (Gr fr l κ cs) w Sh Ψ:=by
 induction h with
 | stop fr w hI τ p h=>exact k fr w τ p hI (Nat.le_refl _) h
 | step fr l w hI F L W E h hs he _ ih=>
  exact To.step rfl fun τ p=>⟨_,_,_,h τ p κ cs,hs τ p,fun e hE=>b7E (he τ p e hE),ih τ p fun fr' w' τ' p' hI' hz=>k fr' w' τ' p' hI' (Nat.le_trans (hs τ p) hz)⟩
end
section
open Go.Conc
open Zn (ext low kk Gr K0 Nx tp tp_self tp_tp)
set_option linter.unusedSectionVars false
section
variable[Lo]
def c0q(P:Program)(Ψ:Goroutine->World->(Nat->Prop)->Prop)(b:Frame)(k:List Item)(cs:List Frame):Exit->Act->World->(Nat->Prop)->Prop
 | .normal,a,w,Sh=>To P (G (b.at a k) cs) w Sh Ψ
 | .exit id,a,w,Sh=>∃k',exitTo id k=some k'/\To P (G (b.at a k') cs) w Sh Ψ
 | .ret,a,w,Sh=>∀todo,To P (G {b.at a todo with mode:=.returning} cs) w Sh Ψ
 | _,_,_,_=>False
def wpT(P:Program)(fn:FuncId)(c:Code)(Q:Exit->Act->World->(Nat->Prop)->Prop)(a:Act)(w:World)(Sh:Nat->Prop):Prop:=
 ∀(b:Frame)(k:List Item)(cs:List Frame)(Ψ:Goroutine->World->(Nat->Prop)->Prop),b.fn=fn->b.kind=.normal->(∀e a' w' Sh',Q e a' w' Sh'->c0q P Ψ b k cs e a' w' Sh')->To P (G (b.at a (.code c::k)) cs) w Sh Ψ
def b4C(P:Program)(fn:FuncId)(ops:Array Oper)(todo:List Nat)(Q:Exit->Act->World->(Nat->Prop)->Prop)(a:Act)(w:World)(Sh:Nat->Prop):Prop:=
 ∀(b:Frame)(k:List Item)(cs:List Frame)(Ψ:Goroutine->World->(Nat->Prop)->Prop),b.fn=fn->b.kind=.normal->(∀e a' w' Sh',Q e a' w' Sh'->c0q P Ψ b k cs e a' w' Sh')->To P (G (b.at a (.inRegion ops todo::k)) cs) w Sh Ψ
def a6P(next:Act->World->(Nat->Prop)->Prop)(Q:Exit->Act->World->(Nat->Prop)->Prop):Exit->Act->World->(Nat->Prop)->Prop
 | .normal,a,w,Sh=>next a w Sh
 | e,a,w,Sh=>Q e a w Sh
set_option linter.unusedSectionVars false
variable{P:Program}{fn:FuncId}{Q:Exit->Act->World->(Nat->Prop)->Prop}{a:Act}{w:World}{Sh:Nat->Prop}{Ψ:Goroutine->World->(Nat->Prop)->Prop}{b:Frame}{k:List Item}{cs:List Frame}
theorem c0q.push{x:Item}{e:Exit}(hx:x.plain=true)(he:e≠.normal)(h:c0q P Ψ b k cs e a w Sh):c0q P Ψ b (x::k) cs e a w Sh:=by
 cases e with
 | normal=>exact absurd rfl he
 | exit id=>obtain⟨k',hk,hg⟩:=h;exact⟨k',by cases x<;>simp_all [exitTo,Item.plain],hg⟩
 | ret=>exact h
 | goto l=>exact h
 | panic ch=>exact h
 | outgrown=>exact h
theorem wpT_mono{c:Code}{Q':Exit->Act->World->(Nat->Prop)->Prop}(h:wpT P fn c Q a w Sh)(hq:∀e a w Sh,Q e a w Sh->Q' e a w Sh):wpT P fn c Q' a w Sh:=
 fun b k cs Ψ hb hk hc=>h b k cs Ψ hb hk fun e a' w' Sh' q=>hc e a' w' Sh' (hq e a' w' Sh' q)
theorem O1{x y:Code}(h:wpT P fn x (a6P (fun a' w' Sh'=>wpT P fn y Q a' w' Sh') Q) a w Sh):wpT P fn (.seq x y) Q a w Sh:=by
 intro b k cs Ψ hb hk hc;refine To.move rfl (fun _=>stepG_seq) (h b (.code y::k) cs Ψ hb hk fun e a' w' Sh' q=>?_)
 cases e with
 | normal=>exact q b k cs Ψ hb hk hc
 | exit id=>exact(hc _ _ _ _ q).push rfl (by simp)
 | ret=>exact(hc _ _ _ _ q).push (x:=.code y) rfl (by simp)
 | goto l=>exact hc _ _ _ _ q
 | panic ch=>exact hc _ _ _ _ q
 | outgrown=>exact hc _ _ _ _ q
theorem wpT_region{id:Nat}{ops:Array Oper}(h:b4C P fn ops (List.range ops.size) Q a w Sh):wpT P fn (.region id ops false) Q a w Sh:=
 fun b k cs Ψ hb hk hc=>To.move rfl (fun _=>stepG_region) (h b k cs Ψ hb hk hc)
theorem b2U{ops:Array Oper}(h:Q .normal a w Sh):b4C P fn ops [] Q a w Sh:=fun b k cs Ψ _ _ hc=>To.move rfl (fun _=>stepG_region_end) (hc _ _ _ _ h)
theorem a0f{ops:Array Oper}{i:Nat}{rest:List Nat}{o:Oper}{v:Value}(ho:ops[i]?=some o)(hw:Region.wanted o (yielded ops a.tmps)=true)(hr:∀w,(execOp a.eval o).run P w=.ok (.value v) w)
 (he:∀w,(execOp a.eval o).events P w #[]=#[])(h:b4C P fn ops rest Q (a.put o.dst v) w Sh):b4C P fn ops (i::rest) Q a w Sh:=fun b k cs Ψ hb hk hc=>
 To.move rfl (fun w=>by
  have e:listed P b.fn a o w=#[]:=by unfold listed;rw[he];exact seen_none P _
  rw[stepG_value ho hw (by rw[hk];simp) (hr w),e]) (h b k cs Ψ hb hk hc)
def bodyT(P:Program)(fn:Func)(Post:Value->World->(Nat->Prop)->Prop):Exit->Act->World->(Nat->Prop)->Prop
 | .normal,a,w,Sh|.ret,a,w,Sh=>a.defers=[]/\∃v,ResultsC P fn a.tmps v/\Post v w Sh
 | _,_,_,_=>False
def b2V(P:Program)(f:FuncId)(args:Array Value)(w:World)(Sh:Nat->Prop)(Post:Value->World->(Nat->Prop)->Prop):Prop:=
 ∃fn c,P.funcs[f]?=some fn/\(fn.name== "runtime.NumGoroutine")=false/\fn.body=some c/\
  wpT P f c (bodyT P fn Post) {tmps:=args++Array.replicate (fn.ntmps - args.size) undef,defers:=[]} w Sh
theorem b0k{ops:Array Oper}{i:Nat}{rest:List Nat}{o:Oper}{f:FuncId}{args:Array Operand}{ats:Array TypeId}{Post:Value->World->(Nat->Prop)->Prop}(ho:ops[i]?=some o)(hw:Region.wanted o (yielded ops a.tmps)=true)
 (hop:o.op=.call {callee:=.value (.func f),args,argTypes:=ats})(hcall:b2V P f (args.map a.eval) w Sh Post)(h:∀v w' Sh',Post v w' Sh'->b4C P fn ops rest Q (a.put o.dst v) w' Sh'):b4C P fn ops (i::rest) Q a w Sh:=by
 intro b k cs Ψ hb hk hc;obtain⟨fn',c,hf,hname,hbody,hwp⟩:=hcall;have hk':b.kind≠.early:=by rw[hk];simp
 have hfin:∀v,(b.at a (.inRegion ops (i::rest)::k)).finish v=b.at (a.put o.dst v) (.inRegion ops rest::k):=fun v=>by rw[Frame.finish_at,ho];rfl
 have hleave:∀(a':Act)(w':World)(Sh':Nat->Prop)(todo:List Item),(a'.defers=[]/\∃v,ResultsC P fn' a'.tmps v/\Post v w' Sh')->
  To P (G {(base f).at a' todo with mode:=.returning} (b.at a (.inRegion ops (i::rest)::k)::cs)) w' Sh' Ψ:=by
  rintro a' w' Sh' todo ⟨hd,v,hr,hp⟩;refine To.move rfl (fun w₁=>?_) (h v w' Sh' hp b k cs Ψ hb hk hc);rw[stepG_leave (b:=base f) rfl hd hf (hr w₁).1 (hr w₁).2,hfin]
 refine To.move rfl (fun w₁=>?_) (hwp (base f) [] (b.at a (.inRegion ops (i::rest)::k)::cs) Ψ rfl rfl fun e a' w' Sh' q=>?_)
 ·obtain⟨g',w',es,e,e1⟩:=goes_elim (goes_call (K:=fun g' w' es=>g'=_/\w'=w₁/\es=#[]) ho hw hk' hop hf hname hbody ⟨rfl,rfl,rfl⟩:(stepG P true (G (b.at a (.inRegion ops (i::rest)::k)) cs) w₁).goes _);obtain⟨rfl,rfl,rfl⟩:=e1;exact e
 ·cases e with
  | normal=>exact To.move rfl (fun _=>stepG_end) (hleave a' w' Sh' [] q)
  | ret=>exact fun todo=>hleave a' w' Sh' todo q
  | exit id=>exact q.elim
  | goto l=>exact q.elim
  | panic ch=>exact q.elim
  | outgrown=>exact q.elim
end
variable{P:Program}{fn:FuncId}{Q:Exit->Act->World->(Nat->Prop)->Prop}{a:Act}{w:World}{Sh:Nat->Prop}{Ψ:Goroutine->World->(Nat->Prop)->Prop}{b:Frame}{k:List Item}{cs:List Frame}
structure Iv(Z:Zn.Zone)(Sh:Nat->Prop)(X:Tmp->Prop)(a:Act)(w:World):Prop where
 tmps:∀t,X t->Zn.VP (Zn.Zf Z Sh w.heap.size) (a.tmps.getD t undef)
 defers:Zn.MarksP (Zn.Zf Z Sh w.heap.size) a.defers
 W:Zn.WPs Z Sh w
variable{Z:Zn.Zone}{X:Tmp->Prop}
theorem Iv.inv{c:Code}(h:Iv Z Sh X a w)(hk:b.kind=.normal)(hc:Zn.CodeP Z c)(hu:Zn.CodeU X c):Zn.Inv Z Sh X (b.at a [.code c]) [] w:=
 ⟨⟨⟨h.tmps,fun x hx=>by
  obtain rfl:x=.code c:=by simpa [Frame.at] using hx
  exact .code c (hc.mono h.W.le) hu,h.defers,.inl rfl,hk,fun l hl=>by cases hl⟩,fun _=>rfl⟩,trivial,h.W⟩
theorem append_self{x:List Item}{y:List Item}(h:x++y=y):x=[]:=by
 have:=congrArg List.length h;rw[List.length_append] at this;exact List.length_eq_zero_iff.1 (by omega)
theorem wpT_lone[Lo]{c:Code}{Q0:Exit->Act->World->Prop}(hP:∀Z',Zn.Le Z Z'->Zn.PQK Z' P)(hI:Iv Z Sh X a w)(hc:Zn.CodeP Z c)(hu:Zn.CodeU X c)(h:∀τ p,c.wp P Q0 a (tp w τ p))
 (hQ:∀e a' w' τ p,Q0 e a' (tp w' τ p)->(e=.normal\/e=.ret)/\(Iv Z Sh X a' w'->w.heap.size<=w'.heap.size->Q e a' w' Sh)):wpT P fn c Q a w Sh:=by
 intro b k cs Ψ hb hk hn
 let A:Frame->World->Prop:=fun F w'=>∃a',(F=b.at a' K0/\Q0 .normal a' w')\/(∃todo,F={b.at a' todo with mode:=.returning}/\Q0 .ret a' w')
 have hA:∀F w',A F w'->∀c,F.mode≠.panicking c:=by
  rintro F w' ⟨a',⟨rfl,_⟩|⟨todo,rfl,_⟩⟩ c h
  ·cases h
  ·cases h
 have goe:Zn.Goe P Z Sh X A (b.at a [.code c]) [] w:=by
  refine Zn.lone_goe hA hP (hI.inv hk hc hu) fun τ p=>?_;obtain⟨e,a',w',hq,har⟩:=h τ p b K0 [Zn.c0];rcases(hQ e a' w' w'.tape w'.drawn (by rw[tp_self];exact hq)).1 with rfl|rfl
  ·obtain⟨n,hr⟩:=har;exact⟨n,_,hr,_,_,rfl,a',.inl ⟨rfl,hq⟩⟩
  ·obtain⟨todo,n,hr⟩:=har;exact⟨n,_,hr,_,_,rfl,a',.inr ⟨todo,rfl,hq⟩⟩
 refine To.goe (κ:=k) (cs:=cs) goe fun fr' w' τ p hI' hz⟨a',ha⟩=>?_;have iv:∀todo,(fr'=b.at a' todo\/fr'={b.at a' todo with mode:=.returning})->Iv Z Sh X a' w':=by
  rintro todo (rfl|rfl)
  ·exact⟨hI'.fr.1.tmps,hI'.fr.1.defers,hI'.W⟩
  ·exact⟨hI'.fr.1.tmps,hI'.fr.1.defers,hI'.W⟩
 rcases ha with⟨e,hq⟩|⟨todo,e,hq⟩
 ·obtain⟨f1,f2,f3,f4,f5,f6,f7⟩:=fr';simp only[ext,Frame.at,Frame.mk.injEq] at e;obtain⟨rfl,rfl,e3,rfl,rfl,rfl,rfl⟩:=e;obtain rfl:=append_self e3;have:=hn _ _ _ _ ((hQ _ _ _ _ _ hq).2 (iv [] (.inl rfl)) hz);exact this
 ·obtain⟨f1,f2,f3,f4,f5,f6,f7⟩:=fr';simp only[ext,Frame.at,Frame.mk.injEq] at e;obtain⟨rfl,rfl,e3,rfl,rfl,rfl,rfl⟩:=e;have:=hn _ _ _ _ ((hQ _ _ _ _ _ hq).2 (iv f3 (.inr rfl)) hz) (f3++k);exact this
end
section
open Go.Conc
open Go.ConcR (WgAt stA)
open Go.ConcN (sumTo WD ShN Vc Ssum phi CTag)
open Zn (tp tp_self)
open Mc (Pz S9 Shun Shp a5P a8g Rdp Y7 X4 Fin Spawns W0 AtW1 Done)
def at_(Z:Pz)(c:Nat):Pz:={Z with c:=c}
set_option linter.unusedSectionVars false
variable[Go.ConcR.Payload][Lo]{Z:Pz}{Cont AnchW:Goroutine->World->Prop}{g:Goroutine}{w:World}{Sh:Nat->Prop}{Ψ:Goroutine->World->(Nat->Prop)->Prop}{B:Nat}
theorem c1V{l:Loc}{B:Nat}(h:Shp Z l)(hW:B<=Z.Wg)(hA:B<=Z.Al):¬l.low B:=by
 cases l with
 | cell a=>
  intro(hl:a.block<B)
  rcases h with h|h<;>omega
 | _=>exact(h:False).elim
theorem ToB.phase(hc:Z.c=0)(hZ:∀c,0<c->S9 (at_ Z c))(hn:Z.n<2147483648)(hSh:Z.ShB=Tr Sh)(hBL:B<=Z.L0)(hBW:B<=Z.Wg)(hBA:B<=Z.Al)(hsz:Z.L0<=w.heap.size)
 (hal:Y7 Z w)(hcb:X4 Z w)(hwg:WgAt Z.ty Z.Wg w 0 0)
 (hAr:∀g w,AnchW g w->g.status=.running)(hAn:∀c,0<c->∀x g w,AnchW g w->∃T,W0 (at_ Z c) (AtW1 (at_ Z c) Cont AnchW) T x g w)
 (hst:∀c τ p,0<c->Spawns (at_ Z c) (Fin (at_ Z c) AnchW) Z.n none g (tp w τ p))
 (hnext:∀(w':World)(g':Goroutine)(O:Nat->Nat->Prop)(bx:Nat->Nat),Cont g' w'->(∀b,Z.Eld b\/Z.ShB b->w'.heap[b]?=w.heap[b]?)->(∀i,i<Z.n->Z.Res i (bx i) (O i) w')->(∀i b,O i b->Z.L0<=b/\b<w'.heap.size)->(∀i k b,O i b->O k b->i=k)->
   Y7 Z w'->X4 Z w'->Z.L0<=w'.heap.size->w'.os=w.os->w'.output=w.output->∃Sh':Nat->Prop,(∀b,Sh b->Sh' b)/\Sh' Z.Wg/\To Z.P g' w' Sh' Ψ):ToB Z.P B g w Sh Ψ:=by
 intro τ p gs sl t q h0 hctx;have hpos:0<gs.size:=(Array.getElem?_eq_some_iff.1 h0).1;have hZc:=hZ gs.size hpos;have eS:Shun (at_ Z gs.size)=Shn Sh:=by
  funext l
  cases l with
  | cell a=>exact congrFun hSh a.block
  | obj r=>exact congrFun hSh r
  | _=>rfl
 have hp:Past (Shun (at_ Z gs.size)) B t:=eS▸hctx.past;have hlow:∀op∈t,op.act.low w.heap.size:=fun op hop=>MemAct.low_mono (by omega) (hctx.past.seen op hop);have hcom:Mc.Com (at_ Z gs.size) t (tp w τ p) 0 gs (tp w τ p) t (fun _=>⟨7,0,0⟩) (fun _ _=>False) (fun _=>Z.e0) (fun _=>.leaf) q 0 none:=by
  refine⟨rfl,fun i y hi _ hy=>hctx.L.old i y hi hy,fun i hi=>absurd hi (by omega),⟨hsz,fun _ _ h=>h.elim,fun _ _ _ h=>h.elim,fun _ _ _ h=>h,fun _ _ _ h=>h.elim,fun _ _ h=>h.elim,fun _=>.inl hZc.e0,fun _ h=>by cases h⟩,?_,?_,hctx.past.hears,fun i hi=>absurd hi (by omega),fun i hi=>absurd hi (by omega),fun _ _=>rfl,hal,hcb,hlow,⟨#[],by simp,by simp⟩,rfl,rfl,rfl⟩
  ·refine Mc.CT.init hpos hp (fun l hl=>?_) (fun l hl=>c1V (Z:=at_ Z gs.size) hl hBW hBA) hctx.gsb;unfold a5P at hl
   exact⟨fun h=>hl (.inl h),by cases h:l.isMemory with
    | true=>rfl
    | false=>exact absurd (.inr h) hl⟩
  ·intro i hi;obtain⟨op,hop,ho⟩:=Option.map_eq_some_iff.1 (show(t[i]?).map (·.act)=_ from hi);have:=hctx.past.seen op (Array.mem_of_getElem? hop);rw[ho] at this;have h1:(stA Z.Wg).block<B:=this;have h2:(stA Z.Wg).block=Z.Wg:=rfl;omega
 have fin:∀tag T0,Mc.CS (at_ Z gs.size) Cont AnchW tag 0 T0 0 none g (tp w τ p)->ConcN.Mode 0 (fun _=>(⟨7,0,0⟩:WD)) tag 0 0->
  ∃N gs' w' sl' t' q' Sh' g' τ' p',runNT Z.P N (crowd gs (tp w τ p) sl) t=(.next (crowd gs' (tp w' τ' p') sl'),t')/\gs'[0]?=some g'/\Ctx Z.P Sh' gs' t' q' w'.heap.size/\Ψ g' w' Sh':=by
  intro tag T0 hcs hm;obtain⟨N,m',t',hr,hd⟩:=Mc.phase_runs hZc hp hBL hn hAr (hAn gs.size hpos) _ _ _ ⟨gs,tp w τ p,sl,0,_,_,_,_,q,tag,T0,0,none,g,0,0,rfl,h0,hcs,hcom,hwg,hm,rfl⟩;obtain⟨gs1,w1,sl1,q1,g1,O,bx1,rfl,hs1,hg1,hrun1,hcont,hL1,hp1,he1,hres,hO,hOd,hal1,hcb1,hL0,htape,hos,hout,hgb⟩:=hd;obtain⟨Sh',hS1,hS2,hto⟩:=hnext w1 g1 O bx1 hcont he1 hres hO hOd hal1 hcb1 hL0 hos hout;have hctx1:Ctx Z.P Sh' gs1 t' q1 w1.heap.size:=by
   refine⟨hL1,⟨hp1.clean,fun i a ha hm=>(hp1.known i a ha hm).imp id fun⟨h1,h2⟩=>⟨?_,h2⟩,hp1.over,hp1.hears,hp1.seen⟩,fun i op hi=>by rw[hs1];exact hgb i op hi,Nat.le_trans hctx.lo (Nat.le_trans hBL hL0)⟩;rcases h1 with h1|⟨ad,h1,h3⟩
   ·rw[eS] at h1;revert h1;cases a.loc<;>first|exact fun h=>⟨h.1,hS1 _ h.2⟩|exact id
   ·rw[h1];show Tr Sh' ad.block;rw[h3];exact⟨Nat.le_trans hctx.lo hBW,hS2⟩
  obtain⟨M,gs2,w2,sl2,t2,q2,Sh2,g2,τ2,p2,k1,k2,k3,k4⟩:=hto w1.tape w1.drawn gs1 sl1 t' q1 hg1 hctx1;exact⟨N+M,gs2,w2,sl2,t2,q2,Sh2,g2,τ2,p2,by rw[runNT_add,show runNT Z.P N _ t=_ from hr];rw[tp_self] at k1;exact k1,k2,k3,k4⟩
 have hs:=hst gs.size τ p hpos;have hv:Vc 0 (fun _=>(⟨7,0,0⟩:WD))=0:=rfl
 cases hn':Z.n with
 | zero=>
  rw[hn'] at hs;obtain⟨-,T,hk⟩:=hs;have e0:(at_ Z gs.size).n=0:=hn';have hk':Mc.CS (at_ Z gs.size) Cont AnchW .kd (at_ Z gs.size).n T 0 none g (tp w τ p):=.kd hk;rw[e0] at hk';refine fin .kd T hk' ?_;have:=ConcN.Mode.opn (j:=0) (D:=fun _=>(⟨7,0,0⟩:WD)) (tag:=.kd) trivial (fun i hi=>absurd hi (by omega)) (fun vs e=>by cases e)
  simpa [hv,ConcN.pend] using this
 | succ r=>
  rw[hn'] at hs;obtain⟨T,hk⟩:=hs;have e0:(at_ Z gs.size).n - (r+1)=0:=by
   have:(at_ Z gs.size).n=r+1:=hn';omega
  have hk':Mc.CS (at_ Z gs.size) Cont AnchW (.sp r 5) ((at_ Z gs.size).n - (r+1)) T 0 none g (tp w τ p):=.skd (by have:(at_ Z gs.size).n=r+1:=hn';omega) hk;rw[e0] at hk';refine fin (.sp r 5) T hk' ?_;have:=ConcN.Mode.opn (j:=0) (D:=fun _=>(⟨7,0,0⟩:WD)) (tag:=.sp r 5) trivial (fun i hi=>absurd hi (by omega)) (fun vs e=>by cases e);simpa [hv,ConcN.pend] using this
end
end Go.To
namespace Go.Mw
section
open Go.Conc
open Go.ConcR (DC0)
open Mc
set_option linter.unusedSectionVars false
theorem c2b{γ:Type}{P:Program}{main:Bool}{R:γ->World->World->Prop}{D:γ->γ->World->World->Array Event->Prop}{Stop Stop':γ->Goroutine->World->Prop}(h:∀x g w,Stop x g w->Stop' x g w):
 ∀{T:Tr}{x:γ}{g:Goroutine}{w:World},Wk P main R D Stop T x g w->Wk P main R D Stop' T x g w:=by
 intro T
 induction T with
 | leaf=>exact fun hw w₁ r=>h _ _ _ (hw w₁ r)
 | node f ih=>
  intro x g w hw;rcases hw with hw|⟨hs,hw⟩
  ·exact .inl fun w₁ r=>h _ _ _ (hw w₁ r)
  ·refine .inr ⟨hs,fun w₁ r=>?_⟩;obtain⟨g',w',es,x',h1,h2,h3⟩:=hw w₁ r;exact⟨g',w',es,x',h1,h2,ih _ h3⟩
variable[Go.ConcR.Payload]{Z:Pz}{x:Option Nat}{Cont Cont' AnchW AnchW':Goroutine->World->Prop}{g:Goroutine}{w:World}
theorem Q9{Stop Stop':Option Nat->Goroutine->World->Prop}(h:∀x g w,Stop x g w->Stop' x g w)(k:∃T,W0 Z Stop T x g w):∃T,W0 Z Stop' T x g w:=let ⟨T,k⟩:=k;⟨T,c2b h k⟩
section
variable(hC:∀g w,Cont g w->Cont' g w)
include hC
theorem b4G(h:AtAcq Z Cont x g w):AtAcq Z Cont' x g w:=let ⟨a,g',b,c,d⟩:=h;⟨a,g',b,c,hC _ _ d⟩
theorem b0l(h:AtKe Z Cont x g w):AtKe Z Cont' x g w:=let ⟨a,g',b,c⟩:=h;⟨a,g',b,Q9 (fun _ _ _=>b4G hC) c⟩
theorem b7G(h:AtW4 Z Cont x g w):AtW4 Z Cont' x g w:=let ⟨a,b⟩:=h;⟨a,fun y=>let ⟨g',b,c⟩:=b y;⟨g',b,Q9 (fun _ _ _=>b0l hC) c⟩⟩
theorem b7H(h:AtW3 Z Cont x g w):AtW3 Z Cont' x g w:=let ⟨a,b,c,d⟩:=h;⟨a,b,c,fun y=>let ⟨g',b,c⟩:=d y;⟨g',b,Q9 (fun _ _ _=>b7G hC) c⟩⟩
variable(hA:∀g w,AnchW g w->AnchW' g w)
include hA
theorem b7I{vs:Nat}(h:AtW2 Z Cont AnchW vs x g w):AtW2 Z Cont' AnchW' vs x g w:=by
 obtain⟨a,b⟩:=h;refine⟨a,fun v hv hw=>⟨fun e=>?_,fun e=>?_⟩⟩
 ·obtain⟨g',b,c⟩:=(b v hv hw).1 e;exact⟨g',b,Q9 (fun _ _ _=>b7H hC) c⟩
 ·obtain⟨g',b,c⟩:=(b v hv hw).2 e;exact⟨g',b,Q9 (fun _ _ _=>hA _ _) c⟩
theorem b0m(h:AtW1 Z Cont AnchW x g w):AtW1 Z Cont' AnchW' x g w:=by
 obtain⟨a,b⟩:=h;refine⟨a,fun v hv hw=>?_⟩;obtain⟨g',b,c,d⟩:=b v hv hw;exact⟨g',b,fun e=>Q9 (fun _ _ _=>b0l hC) (c e),fun e=>Q9 (fun _ _ _=>b7I hC hA) (d e)⟩
end
theorem b0n(hA:∀g w,AnchW g w->AnchW' g w)(h:AtKd Z AnchW x g w):AtKd Z AnchW' x g w:=let ⟨a,g',b,c⟩:=h;⟨a,g',b,Q9 (fun _ _ _=>hA _ _) c⟩
open To Zn in
theorem b5Q[To.Lo]{P:Program}{S:Goroutine->World->Prop}{Sh:Nat->Prop}{Ψ:Goroutine->World->(Nat->Prop)->Prop}:∀{n:Nat}{g:Goroutine}{w:World},Goes P true c0t DC0 S n g w->(∀g',(∃τ p,S g' (Zn.tp w τ p))->To P g' w Sh Ψ)->To P g w Sh Ψ
 | 0,g,w,h,k=>k g ⟨w.tape,w.drawn,h w ⟨w.tape,w.drawn,rfl⟩⟩
 | n+1,g,w,h,k=>by
  rcases h with h|⟨hs,h⟩
  ·exact k g ⟨w.tape,w.drawn,h w ⟨w.tape,w.drawn,rfl⟩⟩
  ·refine To.step hs fun τ p=>?_;obtain⟨g',w',es,e,⟨e1,e2⟩,hn⟩:=goes_elim (h (Zn.tp w τ p) ⟨τ,p,rfl⟩);subst e1;subst e2;exact⟨g',_,#[],e,Nat.le_refl _,by simp,(b5Q hn fun g'⟨τ',p',hs'⟩=>(k g' ⟨τ',p',hs'⟩).to_tp)⟩
open To in
theorem c2c[To.Lo]{P:Program}{tgt:Goroutine}{Sh:Nat->Prop}{Ψ:Goroutine->World->(Nat->Prop)->Prop}(h:b2W P tgt g w)(k:To P tgt w Sh Ψ):To P g w Sh Ψ:=b5Q h fun g'⟨_,_,e⟩=>e▸k
end
end Go.Mw
