/- A part of what the last file proves. -/
import Derived.Test.YtgpbhjjajpbeeaaGreatDoorO08
import Derived.Conc.CompanyCalls
import Derived.Conc.LeavingOf
import Derived.Deep.DeepHandedRow
import Derived.RowKit
import Derived.Test.YtgpbhjjajpbeeaaGreatDoorProg
import Derived.WalkKit
import Derived.WalkSpells
import Derived.WalkLawsBesides
import Derived.OneCell
import Derived.Lib.Strings
import Derived.Lib.AppendStr
import Derived.Laws.CopyOwn
import Derived.LaidEql
import Derived.Stop.Asserts
import Derived.RowKitTokens
set_option linter.all false
open Go.Proofs.Tryz
namespace Go.To
section
open Go.Conc
open Zn (ext low kk Gr K0 Nx tp gJ nO)
set_option linter.unusedSectionVars false
section
variable[Lo]
def Pv(P:Program)(Ψ:Goroutine->World->(Nat->Prop)->Prop)(b:Frame)(k:List Item)(cs:List Frame):Exit->Act->World->(Nat->Prop)->Prop
 | .normal,a,w,Sh=>To P (G (b.at a k) cs) w Sh Ψ
 | .exit id,a,w,Sh=>∃k',exitTo id k=some k'/\To P (G (b.at a k') cs) w Sh Ψ
 | .ret,a,w,Sh=>∀todo,To P (G {b.at a todo with mode:=.returning} cs) w Sh Ψ
 | _,_,_,_=>False
def iZ(P:Program)(fn:FuncId)(c:Code)(Q:Exit->Act->World->(Nat->Prop)->Prop)(a:Act)(w:World)(Sh:Nat->Prop):Prop:=
 ∀(b:Frame)(k:List Item)(cs:List Frame)(Ψ:Goroutine->World->(Nat->Prop)->Prop),b.fn=fn->b.kind=.normal->(∀e a' w' Sh',Q e a' w' Sh'->Pv P Ψ b k cs e a' w' Sh')->To P (G (b.at a (.code c::k)) cs) w Sh Ψ
def mX(P:Program)(fn:FuncId)(ops:Array Oper)(todo:List Nat)(Q:Exit->Act->World->(Nat->Prop)->Prop)(a:Act)(w:World)(Sh:Nat->Prop):Prop:=
 ∀(b:Frame)(k:List Item)(cs:List Frame)(Ψ:Goroutine->World->(Nat->Prop)->Prop),b.fn=fn->b.kind=.normal->(∀e a' w' Sh',Q e a' w' Sh'->Pv P Ψ b k cs e a' w' Sh')->To P (G (b.at a (.inRegion ops todo::k)) cs) w Sh Ψ
def GU(next:Act->World->(Nat->Prop)->Prop)(Q:Exit->Act->World->(Nat->Prop)->Prop):Exit->Act->World->(Nat->Prop)->Prop
 | .normal,a,w,Sh=>next a w Sh
 | e,a,w,Sh=>Q e a w Sh
def Qd(id:Nat)(Q:Exit->Act->World->(Nat->Prop)->Prop):Exit->Act->World->(Nat->Prop)->Prop
 | .exit id',a,w,Sh=>if id'=id then Q .normal a w Sh else Q (.exit id') a w Sh
 | e,a,w,Sh=>Q e a w Sh
set_option linter.unusedSectionVars false
variable{P:Program}{fn:FuncId}{Q:Exit->Act->World->(Nat->Prop)->Prop}{a:Act}{w:World}{Sh:Nat->Prop}{Ψ:Goroutine->World->(Nat->Prop)->Prop}{b:Frame}{k:List Item}{cs:List Frame}
theorem Pv.push{x:Item}{e:Exit}(hx:x.plain=true)(he:e≠.normal)(h:Pv P Ψ b k cs e a w Sh):Pv P Ψ b (x::k) cs e a w Sh:=by
 cases e with
 | normal=>exact absurd rfl he
 | exit id=>obtain⟨k',hk,hg⟩:=h;exact⟨k',by cases x<;>simp_all [exitTo,Item.plain],hg⟩
 | ret=>exact h
 | goto l=>exact h
 | panic ch=>exact h
 | outgrown=>exact h
theorem xM{c:Code}{Q':Exit->Act->World->(Nat->Prop)->Prop}(h:iZ P fn c Q a w Sh)(hq:∀e a w Sh,Q e a w Sh->Q' e a w Sh):iZ P fn c Q' a w Sh:=
 λb k cs Ψ hb hk hc=>h b k cs Ψ hb hk λe a' w' Sh' q=>hc e a' w' Sh' (hq e a' w' Sh' q)
theorem B9(h:Q .normal a w Sh):iZ P fn .skip Q a w Sh:=λ_ _ _ _ _ _ hc=>To.move rfl (λ_=>stepG_skip) (hc _ _ _ _ h)
theorem YY(h:Q .ret a w Sh):iZ P fn .ret Q a w Sh:=λ_ _ _ _ _ _ hc=>To.move rfl (λ_=>stepG_ret') (hc _ _ _ _ h _)
theorem c2g{id:Nat}(h:Q (.exit id) a w Sh):iZ P fn (.exit id) Q a w Sh:=λ_ _ _ _ _ _ hc=>by
 obtain⟨k',hk',hg⟩:=hc _ _ _ _ h;exact To.move rfl (λ_=>stepG_exit hk') hg
theorem L9{x y:Code}(h:iZ P fn x (GU (λa' w' Sh'=>iZ P fn y Q a' w' Sh') Q) a w Sh):iZ P fn (.seq x y) Q a w Sh:=by
 intro b k cs Ψ hb hk hc;refine To.move rfl (λ_=>stepG_seq) (h b (.code y::k) cs Ψ hb hk λe a' w' Sh' q=>?_)
 cases e with
 | normal=>exact q b k cs Ψ hb hk hc
 | exit id=>exact(hc _ _ _ _ q).push rfl (by simp)
 | ret=>exact(hc _ _ _ _ q).push (x:=.code y) rfl (by simp)
 | goto l=>exact hc _ _ _ _ q
 | panic ch=>exact hc _ _ _ _ q
 | outgrown=>exact hc _ _ _ _ q
theorem B8{c:Operand}{x y:Code}{t:Bool}(hc:a.eval c=.bool t)(h:iZ P fn (if t then x else y) Q a w Sh):iZ P fn (.cond c x y) Q a w Sh:=
 λb k cs Ψ hb hk hq=>To.move rfl (λ_=>stepG_cond hc) (h b k cs Ψ hb hk hq)
theorem GA{id:Nat}{c:Code}(h:iZ P fn c (Qd id Q) a w Sh):iZ P fn (.block id c) Q a w Sh:=by
 intro b k cs Ψ hb hk hc;refine To.move rfl (λ_=>stepG_block) (h b (.inBlock id::k) cs Ψ hb hk λe a' w' Sh' q=>?_)
 cases e with
 | normal=>exact To.move rfl (λ_=>stepG_inBlock) (hc _ _ _ _ q)
 | exit id'=>
  by_cases hid:id'=id
  ·simp only[Qd,hid,if_true] at q;exact⟨k,by simp[exitTo,hid],hc _ _ _ _ q⟩
  ·simp only[Qd,hid,if_false] at q;obtain⟨k',hk',hg⟩:=hc _ _ _ _ q;have:(id==id')=false:=by simp;exactλh=>hid h.symm
   exact⟨k',by simp[exitTo,this,hk'],hg⟩
 | ret=>exact hc _ _ _ _ q
 | goto l=>exact hc _ _ _ _ q
 | panic ch=>exact hc _ _ _ _ q
 | outgrown=>exact hc _ _ _ _ q
theorem c2h{c:Code}(I:Nat->Act->World->(Nat->Prop)->Prop){N:Nat}(h0:I N a w Sh)
 (round:∀n a w Sh,I n a w Sh->iZ P fn c (GU (λa' w' Sh'=>∃m,m<n/\I m a' w' Sh') Q) a w Sh):iZ P fn (.loop c) Q a w Sh:=by
 intro b k cs Ψ hb hk hc;refine To.move rfl (λ_=>stepG_loop) ?_
 induction N using Nat.strongRecOn generalizing a w Sh with
 | _ N ih=>
  refine round N a w Sh h0 b (.inLoop c::k) cs Ψ hb hk λe a' w' Sh' q=>?_
  cases e with
  | normal=>
   obtain⟨m,hm,hI⟩:=q
   exact To.move rfl (λ_=>stepG_inLoop) (ih m hm hI)
  | exit id=>exact(hc _ _ _ _ q).push rfl (by simp)
  | ret=>exact(hc _ _ _ _ q).push (x:=.inLoop c) rfl (by simp)
  | goto l=>exact hc _ _ _ _ q
  | panic ch=>exact hc _ _ _ _ q
  | outgrown=>exact hc _ _ _ _ q
theorem C_{id:Nat}{ops:Array Oper}(h:mX P fn ops (List.range ops.size) Q a w Sh):iZ P fn (.region id ops false) Q a w Sh:=
 λb k cs Ψ hb hk hc=>To.move rfl (λ_=>stepG_region) (h b k cs Ψ hb hk hc)
theorem Ae{ops:Array Oper}(h:Q .normal a w Sh):mX P fn ops [] Q a w Sh:=λb k cs Ψ _ _ hc=>To.move rfl (λ_=>stepG_region_end) (hc _ _ _ _ h)
theorem b5V{ops:Array Oper}{i:Nat}{rest:List Nat}{o:Oper}{v:Value}(ho:ops[i]?=some o)(hw:Region.wanted o (yielded ops a.tmps)=true)(hr:∀w,(execOp a.eval o).run P w=.ok (.value v) w)
 (he:∀w,(execOp a.eval o).events P w #[]=#[])(h:mX P fn ops rest Q (a.put o.dst v) w Sh):mX P fn ops (i::rest) Q a w Sh:=λb k cs Ψ hb hk hc=>
 To.move rfl (λw=>by
  have e:listed P b.fn a o w=#[]:=by unfold listed;rw[he];exact seen_none P _
  rw[stepG_value ho hw (by rw[hk];simp) (hr w),e]) (h b k cs Ψ hb hk hc)
def bodyT(P:Program)(fn:Func)(Post:Value->World->(Nat->Prop)->Prop):Exit->Act->World->(Nat->Prop)->Prop
 | .normal,a,w,Sh|.ret,a,w,Sh=>a.defers=[]/\∃v,ResultsC P fn a.tmps v/\Post v w Sh
 | _,_,_,_=>False
def Ej(P:Program)(f:FuncId)(args:Array Value)(w:World)(Sh:Nat->Prop)(Post:Value->World->(Nat->Prop)->Prop):Prop:=
 ∃fn c,P.funcs[f]?=some fn/\(fn.name== "runtime.NumGoroutine")=false/\fn.body=some c/\
  iZ P f c (bodyT P fn Post) {tmps:=args++Array.replicate (fn.ntmps - args.size) undef,defers:=[]} w Sh
theorem b8U{ops:Array Oper}{i:Nat}{rest:List Nat}{o:Oper}{f:FuncId}{args:Array Operand}{ats:Array TypeId}{Post:Value->World->(Nat->Prop)->Prop}(ho:ops[i]?=some o)(hw:Region.wanted o (yielded ops a.tmps)=true)
 (hop:o.op=.call {callee:=.value (.func f),args,argTypes:=ats})(hcall:Ej P f (args.map a.eval) w Sh Post)(h:∀v w' Sh',Post v w' Sh'->mX P fn ops rest Q (a.put o.dst v) w' Sh'):mX P fn ops (i::rest) Q a w Sh:=by
 intro b k cs Ψ hb hk hc;obtain⟨fn',c,hf,hname,hbody,hwp⟩:=hcall;have hk':b.kind≠.early:=by rw[hk];simp
 have hfin:∀v,(b.at a (.inRegion ops (i::rest)::k)).finish v=b.at (a.put o.dst v) (.inRegion ops rest::k):=λv=>by rw[Frame.finish_at,ho];rfl
 have hleave:∀(a':Act)(w':World)(Sh':Nat->Prop)(todo:List Item),(a'.defers=[]/\∃v,ResultsC P fn' a'.tmps v/\Post v w' Sh')->
  To P (G {(base f).at a' todo with mode:=.returning} (b.at a (.inRegion ops (i::rest)::k)::cs)) w' Sh' Ψ:=by
  rintro a' w' Sh' todo ⟨hd,v,hr,hp⟩;refine To.move rfl (λw₁=>?_) (h v w' Sh' hp b k cs Ψ hb hk hc);rw[stepG_leave (b:=base f) rfl hd hf (hr w₁).1 (hr w₁).2,hfin]
 refine To.move rfl (λw₁=>?_) (hwp (base f) [] (b.at a (.inRegion ops (i::rest)::k)::cs) Ψ rfl rfl λe a' w' Sh' q=>?_)
 ·obtain⟨g',w',es,e,e1⟩:=goes_elim (goes_call (K:=λg' w' es=>g'=_/\w'=w₁/\es=#[]) ho hw hk' hop hf hname hbody ⟨rfl,rfl,rfl⟩:(stepG P true (G (b.at a (.inRegion ops (i::rest)::k)) cs) w₁).goes _);obtain⟨rfl,rfl,rfl⟩:=e1;exact e
 ·cases e with
  | normal=>exact To.move rfl (λ_=>stepG_end) (hleave a' w' Sh' [] q)
  | ret=>exactλtodo=>hleave a' w' Sh' todo q
  | exit id=>exact q.elim
  | goto l=>exact q.elim
  | panic ch=>exact q.elim
  | outgrown=>exact q.elim
end
variable{P:Program}{fn:FuncId}{Q:Exit->Act->World->(Nat->Prop)->Prop}{a:Act}{w:World}{Sh:Nat->Prop}{Ψ:Goroutine->World->(Nat->Prop)->Prop}{b:Frame}{k:List Item}{cs:List Frame}
structure Iv(Z:Zn.Zone)(Sh:Nat->Prop)(X:Tmp->Prop)(a:Act)(w:World):Prop where
 tmps:∀t,X t->Zn.VP (Zn.Zf Z Sh w.heap.size) (a.tmps.getD t undef)
 defers:Zn.iK (Zn.Zf Z Sh w.heap.size) a.defers
 W:Zn.jh Z Sh w
variable{Z:Zn.Zone}{X:Tmp->Prop}
theorem Iv.inv{c:Code}(h:Iv Z Sh X a w)(hk:b.kind=.normal)(hc:Zn.eX Z c)(hu:Zn.gX X c):Zn.Inv Z Sh X (b.at a [.code c]) [] w:=
 ⟨⟨⟨h.tmps,λx hx=>by
  obtain rfl:x=.code c:=by simpa [Frame.at] using hx
  exact .code c (hc.mono h.W.le) hu,h.defers,.inl rfl,hk,λl hl=>by cases hl⟩,λ_=>rfl⟩,trivial,h.W⟩
theorem kQ{x:List Item}{y:List Item}(h:x++y=y):x=[]:=by
 have:=congrArg List.length h;rw[aC] at this;exact VE.1 (by omega)
theorem jH[Lo]{c:Code}{Q0:Exit->Act->World->Prop}(hP:∀Z',Zn.Le Z Z'->Zn.qo Z' P)(hI:Iv Z Sh X a w)(hc:Zn.eX Z c)(hu:Zn.gX X c)(h:∀τ p,c.wp P Q0 a (tp w τ p))
 (hQ:∀e a' w' τ p,Q0 e a' (tp w' τ p)->(e=.normal\/e=.ret)/\(Iv Z Sh X a' w'->w.heap.size<=w'.heap.size->Q e a' w' Sh)):iZ P fn c Q a w Sh:=by
 intro b k cs Ψ hb hk hn
 let A:Frame->World->Prop:=λF w'=>∃a',(F=b.at a' K0/\Q0 .normal a' w')\/(∃todo,F={b.at a' todo with mode:=.returning}/\Q0 .ret a' w')
 have hA:∀F w',A F w'->∀c,F.mode≠.panicking c:=by
  rintro F w' ⟨a',⟨rfl,_⟩|⟨todo,rfl,_⟩⟩ c h
  ·cases h
  ·cases h
 have Yz:Zn.su P Z Sh X A (b.at a [.code c]) [] w:=by
  refine Zn.rC hA hP (hI.inv hk hc hu) λτ p=>?_;obtain⟨e,a',w',hq,har⟩:=h τ p b K0 [Zn.c0];rcases(hQ e a' w' w'.tape w'.drawn (by rw[gJ];exact hq)).1 with rfl|rfl
  ·obtain⟨n,hr⟩:=har;exact⟨n,_,hr,_,_,rfl,a',.inl ⟨rfl,hq⟩⟩
  ·obtain⟨todo,n,hr⟩:=har;exact⟨n,_,hr,_,_,rfl,a',.inr ⟨todo,rfl,hq⟩⟩
 refine To.Yz (κ:=k) (cs:=cs) Yz λfr' w' τ p hI' hz⟨a',ha⟩=>?_;have iv:∀todo,(fr'=b.at a' todo\/fr'={b.at a' todo with mode:=.returning})->Iv Z Sh X a' w':=by
  rintro todo (rfl|rfl)
  ·exact⟨hI'.fr.1.tmps,hI'.fr.1.defers,hI'.W⟩
  ·exact⟨hI'.fr.1.tmps,hI'.fr.1.defers,hI'.W⟩
 rcases ha with⟨e,hq⟩|⟨todo,e,hq⟩
 ·obtain⟨f1,f2,f3,f4,f5,f6,f7⟩:=fr';simp only[ext,Frame.at,Frame.mk.injEq] at e;obtain⟨rfl,rfl,e3,rfl,rfl,rfl,rfl⟩:=e;obtain rfl:=kQ e3;have:=hn _ _ _ _ ((hQ _ _ _ _ _ hq).2 (iv [] (.inl rfl)) hz);exact this
 ·obtain⟨f1,f2,f3,f4,f5,f6,f7⟩:=fr';simp only[ext,Frame.at,Frame.mk.injEq] at e;obtain⟨rfl,rfl,e3,rfl,rfl,rfl,rfl⟩:=e;have:=hn _ _ _ _ ((hQ _ _ _ _ _ hq).2 (iv f3 (.inr rfl)) hz) (f3++k);exact this
end
end Go.To
namespace Go.Nm
section
open Go.Conc
open Zn (ext kk low Gr K0 c0 fU)
open To (wR Ctx)
set_option linter.unusedSectionVars false
variable[To.Lo]{P:Program}{D:kK}{A:Frame->World->Prop}
theorem ZP(l:Loc):¬wR (λ_=>False) l:=by cases l<;>first|exactλh=>h.2|exact id
theorem b3V{B:Nat}{e:Event}(h:qh B e):EvL (wR λ_=>False) B e:=by
 refine⟨λx _ hs=>absurd hs (ZP _),?_,?_,?_⟩
 ·rintro he;unfold qh at h;rw[he] at h;exact h
 ·rintro he;unfold qh at h;rw[he] at h;exact h
 ·obtain⟨loc,wr,sy⟩:=e;unfold qh at h
  cases loc with
  | cell a=>cases wr<;>cases sy<;>exact h
  | obj r=>cases wr<;>cases sy<;>first|exact h|trivial
  | mark m=>cases m<;>first|exact(h:False).elim|trivial
  | output=>cases wr<;>cases sy<;>trivial
  | goroutines=>exact(h:False).elim
theorem BR(g:Goroutine)(B:Nat)(hlo:To.Lo.n<=B):Ctx P (λ_=>False) #[g] #[] (λ_=>0) B:=by
 have e:wR (λ_=>False)=λ_=>False:=by funext l;exact eq_false (ZP l)
 exact⟨leavers_one P g,e▸past_nil.mono (bU B),λi op hi=>by simp at hi,hlo⟩
theorem yQ{Sh Sh':Nat->Prop}{gs:Array Goroutine}{t:Trace}{q:Nat->Nat}{B:Nat}(h:Ctx P Sh gs t q B)(hs:∀b,Sh b->Sh' b):Ctx P Sh' gs t q B:=
 ⟨h.L,⟨h.past.clean,λi a ha hm=>(h.past.known i a ha hm).imp id λ⟨h1,h2⟩=>⟨by
  revert h1;cases a.loc<;>first|exactλh=>⟨h.1,hs _ h.2⟩|exact id,h2⟩,h.past.over,h.past.hears,h.past.seen⟩,h.gsb,h.lo⟩
theorem G3:wR (λ_=>False)=λ_=>False:=funext λl=>eq_false (ZP l)
theorem yP{gs:Array Goroutine}{t:Trace}{q:Nat->Nat}{B:Nat}(h:Ctx P (λ_=>False) gs t q B):Leavers P t gs q/\Past (λ_=>False) B t/\∀(i:Nat)(op:MemOp),t[i]?=some op->op.g<gs.size:=⟨h.L,G3▸h.past,h.gsb⟩
theorem Gy{gs:Array Goroutine}{t:Trace}{q:Nat->Nat}{B:Nat}(h:Leavers P t gs q/\Past (λ_=>False) B t/\∀(i:Nat)(op:MemOp),t[i]?=some op->op.g<gs.size)(hlo:To.Lo.n<=B):Ctx P (λ_=>False) gs t q B:=⟨h.1,G3.symm▸h.2.1,h.2.2,hlo⟩
theorem Way.runs{fr:Frame}{l:List Frame}{w:World}(h:Way P A fr l w)(κ:List Item)(cs:List Frame):∀(t:Trace),Ctx P (λ_=>False) #[Gr fr l κ cs] t (λ_=>0) w.heap.size->
 ∃N F w' t',A (ext F K0) w'/\runNT P N (solo (Gr fr l κ cs) w) t=(.next (solo (Gr F [] κ cs) w'),t')/\Ctx P (λ_=>False) #[Gr F [] κ cs] t' (λ_=>0) w'.heap.size/\Rows w w':=by
 induction h with
 | stop fr w h=>exactλt hc=>⟨0,fr,w,t,h,rfl,hc,Rows.refl w⟩
 | step fr l w fr' l' w' es h hr he k ih=>
  intro t hc;have hst:=runT_solo_go (h κ cs);have hc':=hc.own (g:=Gr fr l κ cs) (a':=Gr fr' l' κ cs) (w':=w') (fn:=(Gr fr l κ cs).frame.fn) (pos:=(Gr fr l κ cs).frame.place) (by simp) hr.1 λe hx=>b3V (he e hx);have e1:((#[Gr fr l κ cs].map (woken P (Gr fr l κ cs) (Gr fr' l' κ cs) w')).setIfInBounds 0 (Gr fr' l' κ cs))=#[Gr fr' l' κ cs]:=by simp[Array.setIfInBounds]
  rw[e1] at hc';obtain⟨N,F,w2,t2,a1,a2,a3,a4⟩:=ih _ hc';refine⟨N+1,F,w2,t2,a1,?_,a3,hr.trans a4⟩;simp only[runNT];rw[stepT_solo rfl,hst];exact a2
end
end Go.Nm
namespace Go.Fs
section
open Go.Conc
open Zn (Gr tp gJ)
open To (To mG Ctx wR)
set_option linter.unusedSectionVars false
variable{P:Program}{Post:Value->World->Prop}
abbrev FB:To.Lo:=⟨0⟩
def Fin(P:Program)(Post:Value->World->Prop)(g:Goroutine)(w:World)(t:Trace):Prop:=
 ∃M last o w' t',runNT P (M+1) (solo g w) t=(.ended o w',t')/\runN P M (solo g w)=.next last/\step P last=.ended o w'/\Conc.Good P Post last o w' t'
def So(P:Program)(Post:Value->World->Prop)(g:Goroutine)(w:World):Prop:=∀t,@Ctx FB P (λ_=>False) #[g] t (λ_=>0) w.heap.size->Fin P Post g w t
theorem So.mono{Post':Value->World->Prop}{g:Goroutine}{w:World}(h:So P Post g w)(hp:∀v w',Post v w'->Post' v w'):So P Post' g w:=λt hc=>by
 obtain⟨M,last,o,w',t',h1,h2,h3,h4⟩:=h t hc;exact⟨M,last,o,w',t',h1,h2,h3,h4.mono λv=>hp v w'⟩
theorem So.fin{g:Goroutine}{w:World}(h:So P Post g w):Fin P Post g w #[]:=h #[] (@Nm.BR FB P g _ (bU _))
theorem Fin.of_run{N:Nat}{g g':Goroutine}{w w':World}{t t':Trace}(h:runNT P N (solo g w) t=(.next (solo g' w'),t'))(k:Fin P Post g' w' t'):Fin P Post g w t:=by
 obtain⟨M,last,o,w2,t2,h1,h2,h3,h4⟩:=k;refine⟨N+M,last,o,w2,t2,?_,?_,h3,h4⟩
 ·rw[show N+M+1=N+(M+1) by omega,runNT_add,h];exact h1
 ·have e:runN P N (solo g w)=.next (solo g' w'):=by rw[<-runNT_fst P N _ t,h]
  rw[runN_add,e];exact h2
theorem So.move{g g':Goroutine}{w:World}(hrun:g.status=.running)(h:∀w,stepG P true g w=.go g' w)(k:So P Post g' w):So P Post g w:=by
 intro t hc;letI:=FB
 have hst:=runT_solo_go (P:=P) (h w);have hc':=hc.own (g:=g) (a':=g') (w':=w) (es:=#[]) (fn:=g.frame.fn) (pos:=g.frame.place) (by simp) (aj _) (λe he=>by simp at he);have e1:((#[g].map (woken P g g' w)).setIfInBounds 0 g')=#[g']:=by simp[Array.setIfInBounds]
 rw[e1] at hc';have:=k _ hc';refine Fin.of_run (N:=1) ?_ this;simp only[runNT];rw[stepT_solo hrun,hst]
theorem So.piece{D:Nm.kK}(hP:Nm.ER D P){c:Code}(hc:Nm.jy D c){a:Act}{w:World}(hd:a.defers=[])(hW:∀g,g<P.globals.size->Nm.jW w g){Q0:Exit->Act->World->Prop}(h:c.wp P Q0 a w)(hQ:∀e a' w',Q0 e a' w'->e=.normal\/e=.ret)(b:Frame)(hk:b.kind=.normal)(k:List Item)(cs:List Frame)
 (next:∀a' w',Q0 .normal a' w'->Nm.Rows w w'->So P Post (G (b.at a' k) cs) w')(back:∀a' w' todo,Q0 .ret a' w'->Nm.Rows w w'->So P Post (G {b.at a' todo with mode:=.returning} cs) w'):So P Post (G (b.at a (.code c::k)) cs) w:=by
 intro t hx;letI:=FB
 let A:Frame->World->Prop:=λF w'=>∃a',(F=b.at a' Zn.K0/\Q0 .normal a' w')\/(∃todo,F={b.at a' todo with mode:=.returning}/\Q0 .ret a' w')
 have hA:∀F w',A F w'->∀c,F.mode≠.panicking c:=by
  rintro F w' ⟨a',⟨rfl,_⟩|⟨todo,rfl,_⟩⟩ c h
  ·cases h
  ·cases h
 have hI:Nm.oL D (b.at a [.code c]) []:=⟨⟨λx hx=>by
  obtain rfl:x=.code c:=by simpa [Frame.at] using hx
  exact .code c hc,hd,.inl rfl,hk,rfl⟩,λx hx=>by cases hx⟩
 have hw:Nm.Way P A (b.at a [.code c]) [] w:=by
  obtain⟨e,a',w',hq,har⟩:=h b Zn.K0 [Zn.c0];rcases hQ _ _ _ hq with rfl|rfl
  ·obtain⟨n,hr⟩:=har;exact Nm.nN hA hP n _ [] w hW hI ⟨_,hr,_,_,rfl,a',.inl ⟨rfl,hq⟩⟩
  ·obtain⟨todo,n,hr⟩:=har;exact Nm.nN hA hP n _ [] w hW hI ⟨_,hr,_,_,rfl,a',.inr ⟨todo,rfl,hq⟩⟩
 obtain⟨N,F,w',t',⟨a',ha⟩,h1,h2,h3⟩:=hw.runs k cs t hx;rcases ha with⟨e,hq⟩|⟨todo,e,hq⟩
 ·obtain⟨f1,f2,f3,f4,f5,f6,f7⟩:=F;simp only[Zn.ext,Frame.at,Frame.mk.injEq] at e;obtain⟨rfl,rfl,e3,rfl,rfl,rfl,rfl⟩:=e;obtain rfl:=To.kQ e3;exact Fin.of_run h1 (next a' w' hq h3 t' h2)
 ·obtain⟨f1,f2,f3,f4,f5,f6,f7⟩:=F;simp only[Zn.ext,Frame.at,Frame.mk.injEq] at e;obtain⟨rfl,rfl,e3,rfl,rfl,rfl,rfl⟩:=e;exact Fin.of_run h1 (back a' w' (f3++k) hq h3 t' h2)
def PZ(P:Program)(Post:Value->World->Prop)(g:Goroutine)(w:World):Prop:=
 g.status=.running/\∃v,∀τ p,stepG P true g (tp w τ p)=.ended (.done v) (tp w τ p) #[]/\Post v (tp w τ p)
theorem So.to[To.Lo]{g:Goroutine}{w:World}{Sh:Nat->Prop}(hlo:To.Lo.n<=w.heap.size)(h:To P g w Sh λg' w' _=>PZ P Post g' w'):So P Post g w:=by
 intro t hc;have hc':Ctx P Sh #[g] t (λ_=>0) w.heap.size:=Nm.yQ (Nm.Gy (@Nm.yP FB _ _ _ _ _ hc) hlo) λ_ h=>h.elim;obtain⟨N,gs',w',sl',t',q',Sh',g',τ',p',h1,h2,h3,h4,v,h5⟩:=h w.tape w.drawn #[g] none t (λ_=>0) rfl hc';rw[gJ] at h1;have hG:Goes P true AtRel (λ_ _ _=>False) (AtEnd P (wR Sh') w'.heap.size Post) 0 g' (tp w' τ' p'):=by
  refine Goes.stop λw₁ h₁=>?_;obtain⟨d,rfl⟩:=h₁;have:=h5 τ' d;exact⟨h4,v,#[],this.1,λe he=>by simp at he,this.2⟩
 obtain⟨M,last,o,w2,t2,k1,k2,k3,k4⟩:=beside_ends (λ_ _ _ h=>h.elim) h2 h3.L h3.past hG (sl:=sl');refine⟨N+M,last,o,w2,t2,?_,?_,k3,k4⟩
 ·rw[show N+M+1=N+(M+1) by omega,runNT_add,solo_eq_crowd,h1];exact k1
 ·have e:runN P N (solo g w)=.next (crowd gs' (tp w' τ' p') sl'):=by rw[<-runNT_fst P N _ t,solo_eq_crowd,h1]
  rw[runN_add,e];exact k2
theorem kP{b:Frame}{a:Act}{todo:List Item}{fn:Func}{v:Value}{w:World}(hn:b.kind=.normal)(hd:a.defers=[])(hf:P.funcs[b.fn]?=some fn)(hin:P.inits.idxOf? b.fn=none)
 (hr:ResultsC P fn a.tmps v)(hp:∀τ p,Post v (tp w τ p)):PZ P Post (G {b.at a todo with mode:=.returning} []) w:=by
 refine⟨rfl,v,λτ p=>⟨?_,hp τ p⟩⟩;have h1:=(hr (tp w τ p)).1;have h2:=(hr (tp w τ p)).2;simp[G,stepG,unwind,doReturn,Frame.at,hn,hd,hf,h1,h2,hin,seen,GStep.after]
theorem So.ended{g:Goroutine}{w:World}(h:PZ P Post g w):So P Post g w:=@So.to P Post FB g w (λ_=>False) (bU _) (@To.To.done FB P g w (λ_=>False) _ h)
theorem Bj[To.Lo]{f:FuncId}{fn:Func}{c:Code}{a:Act}{w:World}{Sh:Nat->Prop}{b:Frame}(hb:b.fn=f)(hk:b.kind=.normal)(hf:P.funcs[f]?=some fn)(hin:P.inits.idxOf? f=none)
 (h:To.iZ P f c (To.bodyT P fn λv w _=>∀τ p,Post v (tp w τ p)) a w Sh):To P (G (b.at a [.code c]) []) w Sh λg' w' _=>PZ P Post g' w':=by
 refine h b [] [] _ hb hk ?_;intro e a' w' Sh' q
 cases e with
 | normal=>
  obtain⟨hd,v,hr,hp⟩:=q
  exact To.move rfl (λ_=>stepG_end) (To.done (kP hk hd (by rw[hb];exact hf) (by rw[hb];exact hin) hr hp))
 | ret=>
  obtain⟨hd,v,hr,hp⟩:=q
  exactλtodo=>To.done (kP hk hd (by rw[hb];exact hf) (by rw[hb];exact hin) hr hp)
 | exit id=>exact q.elim
 | goto l=>exact q.elim
 | panic ch=>exact q.elim
 | outgrown=>exact q.elim
section
variable{H:Type}{enc:TypeId×Value->H}
theorem jS{a:Assume}{C:Checked}{os:Os}{f:FuncId}{fn:Func}{s:OpenSpec}{F:Stop.Interp}{conds:List PathCond}{apart fresh handsOn again:Bool}{laid:List (String×DataW Unit)}
 (own:ownKnob C.prog.godebug=none)(started:os.Started)(hfn:C.prog.funcs[f]?=some fn)
 (witness:∃(w:World)(tape:Tape)(i:Input),w.os=os/\(w.forCall tape i).Shaped C.prog/\i.vars=[]/\Input.okWide C.prog (w.forCall tape i) .any w.heap.size f i/\
   s.preRow enc C.prog fn conds apart laid (w.forCall tape i).memory i.args/\a.holds C.prog (lone (Frame.enter C.prog f i.args .normal) [] (w.forCall tape i)))
 (runs:∀(W:World)(base:Nat)(args:Array Value)(ds gs:List (DataW H))(before:List MemPlace),
   (∀(j:Nat)t v,fn.params[j]?=some t->args[j]?=some v->Value.okWide C.prog W .any base t v)->
   DataW.Whole enc C.prog fn.params.toList s.vars apart W args.toList ds gs before->
   conds.all (PathCond.test C.prog ⟨fn.params.toList,ds,s.bare.plain.varTypes C.prog,gs⟩)=true->
   (∀k,s.cond=some k->k H (ds++gs)=true)->
   (DataW.weightsEach C.prog (fn.params.toList++s.bare.plain.varTypes C.prog) (ds++gs)).all (· ≤ reachBytes)=true->
   laidMetH C.prog laid W->
   W.ShapedOpen C.prog->
   a.holds C.prog (lone (Frame.enter C.prog f args .normal) [] W)->
   So C.prog (λv W'=>(s.at F).post enc C.prog fn apart fresh handsOn again W args v W') (G (Frame.enter C.prog f args .normal) []) W):
 ReturnsInLeavingWide a C os f .any (s.preRow enc C.prog fn conds apart laid) ((s.at F).post enc C.prog fn apart fresh handsOn again):=by
 refine returnsInLeavingWide_of_good own started witness ?_;intro w tape i _ hsh _ hok hpre hholds;obtain⟨_,_,_,fn',hfn',_,_,_,_,hval⟩:=hok;have e:fn'=fn:=aF (hfn'.symm.trans hfn);subst e;obtain⟨⟨hp,hl⟩,hz⟩:=hpre;obtain⟨ds,gs,before,hw,hc,hk⟩:=OpenSpec.pre_parts hp;have hw':=DataW.Whole.of_heap (w':=w.forCall tape i) (by rfl) hw;obtain⟨M,last,o,w',t',h1,h2,h3,h4⟩:=(runs (w.forCall tape i) w.heap.size i.args ds gs before hval hw' hc hk (hz.weights hw) (hl.of_heap (by rfl)) hsh hholds).fin;exact⟨M,last,o,w',t',h1,h2,h3,h4.mono λv hp=>ChangeSpec.post_blind hp⟩
end
end
section
open Go.Conc
variable{P:Program}{Post:Value->World->Prop}
def WK(K R:Act->World->Prop):Exit->Act->World->Prop
 | .normal,a,w=>a.defers=[]/\K a w
 | .ret,a,w=>R a w
 | _,_,_=>False
def WL(P:Program)(N R:Act->World->Prop):List Code->Act->World->Prop
 | [],a,w=>N a w
 | c::cs,a,w=>c.wp P (WK (WL P N R cs) R) a w
def chain:List Code->Code->Code
 | [],c=>c
 | x::xs,c=>.seq x (chain xs c)
theorem So.list{D:Nm.kK}(hP:Nm.ER D P){N R:Act->World->Prop}{b:Frame}(hk:b.kind=.normal){rest:Code}{k:List Item}{css:List Frame}
 (next:∀a' w',N a' w'->a'.defers=[]->(∀g,g<P.globals.size->Nm.jW w' g)->So P Post (G (b.at a' (.code rest::k)) css) w')(back:∀a' w' todo,R a' w'->So P Post (G {b.at a' todo with mode:=.returning} css) w'):
 ∀(cs:List Code)(a:Act)(w:World),(∀c∈cs,Nm.jy D c)->WL P N R cs a w->a.defers=[]->(∀g,g<P.globals.size->Nm.jW w g)->So P Post (G (b.at a (.code (chain cs rest)::k)) css) w:=by
 intro cs
 induction cs with
 | nil=>exactλa w _ h hd hW=>next a w h hd hW
 | cons c cs ih=>
  intro a w hc h hd hW;refine So.move rfl (λ_=>stepG_seq) ?_;refine So.piece hP (hc c (iL ..)) hd hW h (λe a' w' q=>by cases e<;>first|exact .inl rfl|exact .inr rfl|exact q.elim) b hk (.code (chain cs rest)::k) css ?_ ?_
  ·rintro a' w' ⟨hd',q⟩ hr;exact ih a' w' (λc hc'=>hc c (dR _ hc')) q hd' λg hg=>hr.2 g (hW g hg)
  ·exactλa' w' todo q _=>back a' w' todo q
def okV:Value->Bool
 | .bool _|.int _ _|.string _|.pointer none|.slice none _ _|.nilIface=>true
 | .tuple c=>c.isEmpty
 | _=>false
theorem okV.sound{Z:Zn.Zone}{v:Value}(h:okV v=true):Zn.VP Z v:=by
 unfold okV at h;split at h
 ·exact .bool _
 ·exact .int _ _
 ·exact .string _
 ·exact .jc
 ·exact .gy _ _
 ·exact .nilIface
 ·rename_i c;exact .tuple c λx hx=>by
   have:c=#[]:=by simpa using h
   subst this;simp at hx
 ·cases h
theorem okV.all{T:Array Value}{X:Tmp->Bool}(n:Nat)(ex:List Nat)(h:(List.range n).all (λk=>!X k||(ex.contains k||okV (T.getD k undef)))=true)(hX:∀k,X k=true->k<n){k:Nat}(hk:X k=true)(hn:k∉ex):okV (T.getD k undef)=true:=by
 have:=aQ.1 h k (fV.2 (hX k hk));rw[hk] at this;simpa [hn] using this
end
end Go.Fs
namespace Go.To
section
open Go.Conc
open Zn (tp gJ)
set_option linter.unusedSectionVars false
section
variable[Lo]{P:Program}{fn:FuncId}{Q:Exit->Act->World->(Nat->Prop)->Prop}{w:World}{Sh:Nat->Prop}{ops:Array Oper}{i n d:Nat}{rest:List Nat}{o:Oper}{v:Value}{T:Array Value}{ds:List Deferred}
theorem Uo(hd:o.dst=some d)(hs:T.size=n)(hdn:d<n):∃T',Act.put ⟨T,ds⟩ o.dst v=⟨T',ds⟩/\T'.size=n/\T'[d]?=some v/\∀k,k≠d->T'[k]?=T[k]?:=
 ⟨T.setIfInBounds d v,by rw[hd];rfl,by rw[RY,hs],bT (by omega),λk hk=>aK (bP hk)⟩
theorem c2i(ho:ops[i]?=some o)(hd:o.dst=some d)(hw:Region.wanted o (yielded ops T)=true)(hs:T.size=n)(hdn:d<n)
 (hr:∀w,(execOp (Act.eval ⟨T,ds⟩) o).run P w=.ok (.value v) w/\(execOp (Act.eval ⟨T,ds⟩) o).events P w #[]=#[])
 (h:∀T',T'.size=n->T'[d]?=some v->(∀k,k≠d->T'[k]?=T[k]?)->mX P fn ops rest Q ⟨T',ds⟩ w Sh):mX P fn ops (i::rest) Q ⟨T,ds⟩ w Sh:=by
 obtain⟨T',e,a,b,c⟩:=Uo (ds:=ds) (v:=v) hd hs hdn;exact b5V ho hw (λw=>(hr w).1) (λw=>(hr w).2) (e▸h T' a b c)
theorem b8V(ho:ops[i]?=some o)(hd:o.dst=some d)(hw:Region.wanted o (yielded ops T)=false)(hs:T.size=n)(hdn:d<n)
 (h:∀T',T'.size=n->T'[d]?=some undef->(∀k,k≠d->T'[k]?=T[k]?)->mX P fn ops rest Q ⟨T',ds⟩ w Sh):mX P fn ops (i::rest) Q ⟨T,ds⟩ w Sh:=by
 obtain⟨T',e,a,b,c⟩:=Uo (ds:=ds) (v:=undef) hd hs hdn;exactλb' k cs Ψ hb hk hc=>To.move rfl (λ_=>stepG_unwanted (a:=⟨T,ds⟩) ho hw) (e▸h T' a b c b' k cs Ψ hb hk hc)
theorem b8W{ad:Addr}(ho:ops[i]?=some o)(hd:o.dst=some d)(hw:Region.wanted o (yielded ops T)=true)(hs:T.size=n)(hdn:d<n)(hlo:ad.block<Lo.n)(hB:ad.block<w.heap.size)
 (hr:∀τ p,(execOp (Act.eval ⟨T,ds⟩) o).run P (tp w τ p)=.ok (.value v) (tp w τ p)/\(execOp (Act.eval ⟨T,ds⟩) o).events P (tp w τ p) #[]=#[⟨.cell ad,false,false⟩])
 (h:∀T',T'.size=n->T'[d]?=some v->(∀k,k≠d->T'[k]?=T[k]?)->mX P fn ops rest Q ⟨T',ds⟩ w Sh):mX P fn ops (i::rest) Q ⟨T,ds⟩ w Sh:=by
 obtain⟨T',e,a,b,c⟩:=Uo (ds:=ds) (v:=v) hd hs hdn;intro b' k cs Ψ hb hk hc;refine To.step rfl λτ p=>⟨_,tp w τ p,_,stepG_value (a:=⟨T,ds⟩) ho hw (by rw[hk];simp) (hr τ p).1,aj _,λev he=>?_,To.fZ (e▸h T' a b c b' k cs Ψ hb hk hc)⟩;have:=mem_seen he;rw[(hr τ p).2] at this;obtain rfl:ev=⟨.cell ad,false,false⟩:=by simpa using this
 exact evL_cell _ _ (λhs=>by have:=hs.1;omega) hB
theorem b5W{f:FuncId}{args:Array Operand}{ats:Array TypeId}{Post:Value->World->(Nat->Prop)->Prop}(ho:ops[i]?=some o)(hd:o.dst=some d)(hw:Region.wanted o (yielded ops T)=true)(hop:o.op=.call {callee:=.value (.func f),args,argTypes:=ats})(hs:T.size=n)(hdn:d<n)
 (hcall:Ej P f (args.map (Act.eval ⟨T,ds⟩)) w Sh Post)
 (h:∀v w' Sh' T',Post v w' Sh'->T'.size=n->T'[d]?=some v->(∀k,k≠d->T'[k]?=T[k]?)->mX P fn ops rest Q ⟨T',ds⟩ w' Sh'):mX P fn ops (i::rest) Q ⟨T,ds⟩ w Sh:=
 b8U ho hw hop hcall λv w' Sh' hp=>by
  obtain⟨T',e,a,b,c⟩:=Uo (ds:=ds) (v:=v) hd hs hdn;exact e▸h v w' Sh' T' hp a b c
theorem b8X{j t:Nat}{oj:Oper}{x y:Bool}(hg:o.guard=some (j,x))(hj:ops[j]?=some oj)(hd:oj.dst=some t)(ht:T[t]?=some (.bool y)):Region.wanted o (yielded ops T)=(y==x):=by
 unfold Region.wanted yielded;rw[hg];simp only[hj,eF,hd,ht];cases x<;>cases y<;>rfl
variable{Z:Zn.Zone}{X Y:Tmp->Prop}
theorem Iv.keep{T':Array Value}(hI:Iv Z Sh X ⟨T,ds⟩ w)(h:∀k,X k->T'[k]?=T[k]?\/∃v,T'[k]?=some v/\Zn.VP (Zn.Zf Z Sh w.heap.size) v):Iv Z Sh X ⟨T',ds⟩ w:=by
 refine⟨λt ht=>?_,hI.defers,hI.W⟩;show Zn.VP _ (T'.getD t undef);rw[aA];rcases h t ht with h|⟨v,h,hv⟩
 ·rw[h,<-aA];exact hI.tmps t ht
 ·rw[h];exact hv
def yi(P:Program)(fn:Func)(args:Array Value)(w:World)(R:Ending->World->Prop):Prop:=∀c,fn.body=some c->c.wp P (bodyPost P fn R) ⟨args++Array.replicate (fn.ntmps - args.size) undef,[]⟩ w
theorem B7{args:Array Value}{k:Nat}(hW:Zn.jh Z Sh w)(ha:∀v∈args,Zn.VP (Zn.Zf Z Sh w.heap.size) v):Iv Z Sh Zn.Full ⟨args++Array.replicate k undef,[]⟩ w:=by
 refine⟨λt _=>?_,λd hd=>(by cases hd),hW⟩;show Zn.VP _ ((args++Array.replicate k undef).getD t undef);rw[aA,j_];split
 ·rename_i h;rw[bK h];exact ha _ (iY h)
 ·rw[mZ];split<;>exact Zn.iy
theorem b0t{f:FuncId}{fn:Func}{c:Code}{args:Array Value}{Q0:World->Value->World->Prop}{Post:Value->World->(Nat->Prop)->Prop}(hP:∀Z',Zn.Le Z Z'->Zn.qo Z' P)(hf:P.funcs[f]?=some fn)(hn:(fn.name== "runtime.NumGoroutine")=false)(hb:fn.body=some c)(hc:Zn.eX Z c)
 (hW:Zn.jh Z Sh w)(ha:∀v∈args,Zn.VP (Zn.Zf Z Sh w.heap.size) v)(h:∀τ p,yi P fn args (tp w τ p) λe w'=>∃v,e=.returned v/\Q0 (tp w τ p) v w')
 (hr:∀(Z':Zn.Zone)(tmps:Array Value),(∀t,Zn.VP Z' (tmps.getD t undef))->∃v,ResultsC P fn tmps v/\Zn.VP Z' v)
 (hQ:∀v w' τ p τ' p',Q0 (tp w τ p) v (tp w' τ' p')->Zn.jh Z Sh w'->Zn.VP (Zn.Zf Z Sh w'.heap.size) v->w.heap.size<=w'.heap.size->Post v w' Sh):Ej P f args w Sh Post:=by
 refine⟨fn,c,hf,hn,hb,jH (X:=Zn.Full) (Q0:=λe a' w'=>∃τ p,bodyPost P fn (λe w'=>∃v,e=.returned v/\Q0 (tp w τ p) v w') e a' w') hP (B7 hW ha) hc (Zn.fD c) (λτ p=>Code.wp_mono (λ_ _ _ q=>⟨τ,p,q⟩) (h τ p c hb)) ?_⟩;rintro e a' w' τ' p' ⟨τ,p,q⟩;have key:(a'.defers=[]/\∃v,(results fn a'.tmps).run P (tp w' τ' p')=.ok v (tp w' τ' p')/\∃u,Ending.returned v=.returned u/\Q0 (tp w τ p) u (tp w' τ' p'))->Iv Z Sh Zn.Full a' w'->w.heap.size<=w'.heap.size->a'.defers=[]/\∃v,ResultsC P fn a'.tmps v/\Post v w' Sh:=by
  rintro⟨hd,v,hv,u,e,hq⟩ hI hz;injection e with e;subst e;obtain⟨v',h1,h2⟩:=hr (Zn.Zf Z Sh w'.heap.size) a'.tmps λt=>hI.tmps t trivial;have e:=(h1 (tp w' τ' p')).1;rw[hv] at e;injection e with e;subst e;exact⟨hd,v,h1,hQ _ _ _ _ _ _ hq hI.W h2 hz⟩
 cases e with
 | normal=>exact⟨.inl rfl,key q⟩
 | ret=>exact⟨.inr rfl,key q⟩
 | panic ch=>obtain⟨_,v,h,_⟩:=q;cases h
 | outgrown=>obtain⟨v,h,_⟩:=q;cases h
 | exit id=>exact q.elim
 | goto l=>exact q.elim
end
end
section
open Go.Conc
open Zn (tp gJ)
set_option linter.unusedSectionVars false
def uO(ops:Array Oper)(i d:Nat)(op:Op)(g:Option (Nat×Bool)):Prop:=(ops[i]?).map (λo=>(o.dst,o.op,o.guard))=some (some d,op,g)
section
variable[Lo]{P:Program}{fn:FuncId}{Q:Exit->Act->World->(Nat->Prop)->Prop}{w:World}{Sh:Nat->Prop}{ops:Array Oper}{i n d:Nat}{rest:List Nat}{v:Value}{T:Array Value}{ds:List Deferred}{op:Op}{g:Option (Nat×Bool)}{ρ:Operand->Value}{x y:Operand}
omit[Lo] in
theorem uO.of(h:(ops[i]?).map (λo=>(o.dst,o.op,o.guard))=some (some d,op,g)):uO ops i d op g:=h
omit[Lo] in
theorem uO.get(h:uO ops i d op g):∃o,ops[i]?=some o/\o.dst=some d/\o.op=op/\o.guard=g:=by
 unfold uO at h;obtain⟨o,h1,h2⟩:=aS.1 h;injection h2 with h2 h3;injection h3 with h3 h4;exact⟨o,h1,h2,h3,h4⟩
def Wn(ops:Array Oper)(T:Array Value)(g:Option (Nat×Bool))(b:Bool):Prop:=∀o:Oper,o.guard=g->Region.wanted o (yielded ops T)=b
theorem lC:Wn ops T none true:=λo h=>by unfold Region.wanted;rw[h]
theorem RZ{j t:Nat}{mr:Op}{gj:Option (Nat×Bool)}{b c:Bool}(hj:uO ops j t mr gj)(ht:T[t]?=some (.bool c)):Wn ops T (some (j,b)) (c==b):=λo h=>by
 obtain⟨oj,h1,h2,_⟩:=hj.get;exact b8X h h1 h2 ht
def Runs(P:Program)(ρ:Operand->Value)(op:Op)(v:Value):Prop:=∀o:Oper,o.op=op->∀w,(execOp ρ o).run P w=.ok (.value v) w/\(execOp ρ o).events P w #[]=#[]
theorem CY(h:uO ops i d op g)(hw:Wn ops T g true)(hs:T.size=n)(hdn:d<n)(hr:Runs P (Act.eval ⟨T,ds⟩) op v)
 (k:∀T',T'.size=n->T'[d]?=some v->(∀k,k≠d->T'[k]?=T[k]?)->mX P fn ops rest Q ⟨T',ds⟩ w Sh):mX P fn ops (i::rest) Q ⟨T,ds⟩ w Sh:=by
 obtain⟨o,h1,h2,h3,h4⟩:=h.get;exact c2i h1 h2 (hw o h4) hs hdn (hr o h3) k
theorem c2j(h:uO ops i d op g)(hw:Wn ops T g false)(hs:T.size=n)(hdn:d<n)
 (k:∀T',T'.size=n->T'[d]?=some undef->(∀k,k≠d->T'[k]?=T[k]?)->mX P fn ops rest Q ⟨T',ds⟩ w Sh):mX P fn ops (i::rest) Q ⟨T,ds⟩ w Sh:=by
 obtain⟨o,h1,h2,h3,h4⟩:=h.get;exact b8V h1 h2 (hw o h4) hs hdn k
theorem b8Y{ad:Addr}{t:TypeId}(h:uO ops i d (.load t x) none)(hs:T.size=n)(hdn:d<n)(hx:Act.eval ⟨T,ds⟩ x=.pointer (some ad))(hlo:ad.block<Lo.n)(hc:w.cell? ad=some v)
 (hr:∀o:Oper,o.op=.load t x->∀w,w.cell? ad=some v->(execOp (Act.eval ⟨T,ds⟩) o).run P w=.ok (.value v) w/\(execOp (Act.eval ⟨T,ds⟩) o).events P w #[]=#[⟨.cell ad,false,false⟩])
 (k:∀T',T'.size=n->T'[d]?=some v->(∀k,k≠d->T'[k]?=T[k]?)->mX P fn ops rest Q ⟨T',ds⟩ w Sh):mX P fn ops (i::rest) Q ⟨T,ds⟩ w Sh:=by
 obtain⟨o,h1,h2,h3,h4⟩:=h.get;exact b8W h1 h2 (lC o h4) hs hdn hlo (World.block_lt_of_cell? w _ hc) (λτ p=>hr o h3 (tp w τ p) hc) k
theorem cT{f:FuncId}{args:Array Operand}{ats:Array TypeId}{Post:Value->World->(Nat->Prop)->Prop}(h:uO ops i d (.call {callee:=.value (.func f),args,argTypes:=ats}) none)(hs:T.size=n)(hdn:d<n)
 (hcall:Ej P f (args.map (Act.eval ⟨T,ds⟩)) w Sh Post)
 (k:∀v w' Sh' T',Post v w' Sh'->T'.size=n->T'[d]?=some v->(∀k,k≠d->T'[k]?=T[k]?)->mX P fn ops rest Q ⟨T',ds⟩ w' Sh'):mX P fn ops (i::rest) Q ⟨T,ds⟩ w Sh:=by
 obtain⟨o,h1,h2,h3,h4⟩:=h.get;exact b5W h1 h2 (lC o h4) h3 hs hdn hcall k
theorem W9(h:ρ x=v):Runs P ρ (.move x) v:=λo ho w=>by constructor<;>simp[go_sem,execOp,ho,h]
theorem EJ(h:ρ x=v):Runs P ρ (.assign x) v:=λo ho w=>by constructor<;>simp[go_sem,execOp,ho,h]
theorem b5X(h:ρ x=.bool true)(z:Operand)(hy:ρ y=v):Runs P ρ (.pick x y z) v:=λo ho w=>by constructor<;>simp[go_sem,execOp,ho,h,hy]
theorem b5Y(h:ρ x=.bool false)(z:Operand)(hy:ρ y=v):Runs P ρ (.pick x z y) v:=λo ho w=>by constructor<;>simp[go_sem,execOp,ho,h,hy]
theorem G7{k:Nat}(h:T[k]?=some v):Act.eval ⟨T,ds⟩ (.tmp k)=v:=by
 show T.getD k undef=v;rw[aA,h];rfl
end
end
end Go.To
namespace Go.Proofs.YtgpbhjjajpbeeaaGreatDoor
namespace Pl
def wH(c:Nat):Nat:=(c/2) ^^^ (if c%2=1 then 3988292384 else 0)
def uj:Nat->Nat->Nat
 | 0,c=>c
 | n+1,c=>uj n (wH c)
def CX(c:Nat)(b:UInt8):Nat:=uj 8 (c ^^^ b.toNat)
def Y3(c:Nat)(l:List UInt8):Nat:=l.foldl CX c
def crc(l:List UInt8):Nat:=Y3 4294967295 l ^^^ 4294967295
theorem Qe{a b:Nat}(ha:a<4294967296)(hb:b<4294967296):a ^^^ b<4294967296:=
 Nat.xor_lt_two_pow (n:=32) ha hb
theorem b8M{c:Nat}(h:c<4294967296):wH c<4294967296:=by
 unfold wH;split<;>exact Qe (by omega) (by omega)
theorem cC(n:Nat):∀{c:Nat},c<4294967296->uj n c<4294967296:=by
 induction n with
 | zero=>intro c h;exact h
 | succ n ih=>intro c h;exact ih (b8M h)
theorem W1(n:Nat):∀c:Nat,uj (n+1) c=wH (uj n c):=by
 induction n with
 | zero=>intro c;rfl
 | succ n ih=>intro c;exact ih (wH c)
theorem b5O{c:Nat}(h:c<4294967296)(b:UInt8):CX c b<4294967296:=
 cC 8 (Qe h (by have:=b.toNat_lt;omega))
theorem QI(l:List UInt8):∀{c:Nat},c<4294967296->Y3 c l<4294967296:=by
 induction l with
 | nil=>intro c h;exact h
 | cons b l ih=>intro c h;exact ih (b5O h b)
theorem Ew(l:List UInt8):crc l<4294967296:=Qe (QI l (by omega)) (by omega)
theorem Wz(c:Nat)(l:List UInt8)(b:UInt8):Y3 c (l++[b])=CX (Y3 c l) b:=by
 simp[Y3]
theorem take_snoc{α:Type}(l:List α)(k:Nat)(h:k<l.length):l.take (k+1)=l.take k++[l[k]]:=by
 rw[List.take_succ_eq_append_getElem h]
def be(n:Nat):Nat->List UInt8
 | 0=>[]
 | k+1=>UInt8.ofNat (n/256^k)::be n k
theorem I7(n k:Nat):(be n k).length=k:=by
 induction k with
 | zero=>rfl
 | succ k ih=>simp[be,ih]
theorem c3V(n j:Nat):((n:Int)/2^(8*(j:Int)).toNat)%256=((UInt8.ofNat (n/256^j)).toNat:Int):=by
 have h1:(8*(j:Int)).toNat=8*j:=by omega
 have h2:(2:Nat)^(8*j)=256^j:=by rw[Nat.pow_mul]
 rw[h1,show((2:Int)^(8*j))=((2^(8*j):Nat):Int) by push_cast;rfl,h2];simp
def body(seq:Nat)(k v:List UInt8)(d:Bool):List UInt8:=be seq 8++be (if d then 1 else 0) 1++be k.length 1++be v.length 2++k++v
def summed(l:List UInt8):List UInt8:=be (crc l) 4++l
def num(l:List UInt8):Nat:=l.foldl (λn b=>n*256+b.toNat) 0
theorem ZO(l:List UInt8)(b:UInt8):num (l++[b])=num l*256+b.toNat:=by simp[num]
theorem c1H(l:List UInt8):∀n,l.foldl (λn b=>n*256+b.toNat) n=n*256^l.length+num l:=by
 induction l with
 | nil=>intro n;simp[num]
 | cons b l ih=>
  intro n;simp only[jG,num];rw[ih,ih (0*256+b.toNat)];simp only[bV,og];rw[Nat.add_mul,Nat.zero_mul,n_,jF,Nat.mul_assoc,oh 256]
theorem c1I(b:UInt8)(l:List UInt8):num (b::l)=b.toNat*256^l.length+num l:=by
 have:=c1H l (0*256+b.toNat);simpa [num] using this
theorem TG(l:List UInt8):num l<256^l.length:=by
 induction l with
 | nil=>simp[num]
 | cons b l ih=>
  rw[c1I,bV,og];have:=b.toNat_lt;have h1:b.toNat*256^l.length<=255*256^l.length:=h_ _ (by omega);omega
theorem c1J(n j:Nat):((n:Int)/2^(8*j))%256=((UInt8.ofNat (n/256^j)).toNat:Int):=by
 have:=c3V n j;rw[show(8*(j:Int)).toNat=8*j by omega] at this;exact this
structure Rec where
 seq:Nat
 key:List UInt8
 val:List UInt8
 del:Bool
 size:Nat
def D9(l:List UInt8):Nat:=num ((l.drop 13).take 1)
def H8(l:List UInt8):Nat:=num ((l.drop 14).take 2)
def P6(l:List UInt8):Nat:=num ((l.drop 12).take 1)
def good(l:List UInt8):Bool:=
 decide (16+D9 l+H8 l<=l.length)&&(decide (P6 l<=1)&&(decide (1<=D9 l)&&(decide (D9 l<=16)&&(decide (H8 l<=64)&&(!(decide (P6 l=1)&&decide (0<H8 l)) &&
  decide (crc ((l.take (16+D9 l+H8 l)).drop 4)=num (l.take 4)))))))
def dec(l:List UInt8):Option Rec:=
 if good l=true then some ⟨num ((l.drop 4).take 8),(l.drop 16).take (D9 l),(l.drop (16+D9 l)).take (H8 l),decide (P6 l=1),16+D9 l+H8 l⟩ else none
def lg(s:List UInt8×Bool)(n:Nat):Nat×(List UInt8×Bool):=
 if s.2=true\/s.1.length<n then(0,(s.1,true)) else(num (s.1.take n),(s.1.drop n,false))
def uF(s:List UInt8×Bool)(n:Nat):List UInt8×(List UInt8×Bool):=
 if s.2=true\/s.1.length<n then([],(s.1,true)) else(s.1.take n,(s.1.drop n,false))
theorem wP(x:List UInt8)(n:Nat):lg (x,true) n=(0,(x,true)):=by simp[lg]
theorem Zx(x:List UInt8)(n:Nat):uF (x,true) n=([],(x,true)):=by simp[uF]
theorem Df{x:List UInt8}{n:Nat}(h:x.length<n):lg (x,false) n=(0,(x,true)):=by simp[lg,h]
theorem G1{x:List UInt8}{n:Nat}(h:x.length<n):uF (x,false) n=([],(x,true)):=by simp[uF,h]
theorem CP{x:List UInt8}{n:Nat}(h:n<=x.length):lg (x,false) n=(num (x.take n),(x.drop n,false)):=by
 have:¬x.length<n:=by omega
 simp[lg,this]
theorem tB{x:List UInt8}{n:Nat}(h:n<=x.length):uF (x,false) n=(x.take n,(x.drop n,false)):=by
 have:¬x.length<n:=by omega
 simp[uF,this]
theorem O8(l:List UInt8)(k:Nat):num (l.take k)<256^k:=
 ak (TG _) (ji (by omega) (by rw[bD];omega))
theorem Is{l:List UInt8}{m1 m2 fl k v:Nat}{key val:List UInt8}{s1 s2 s3 s4 s5 s6 s7:List UInt8×Bool}
 (e1:(m1,s1)=lg (l,false) 4)(e2:(m2,s2)=lg s1 8)(e3:(fl,s3)=lg s2 1)(e4:(k,s4)=lg s3 1)(e5:(v,s5)=lg s4 2)(e6:(key,s6)=uF s5 k)(e7:(val,s7)=uF s6 v):
 k<256/\v<65536/\((s7.2=true/\l.length<16+D9 l+H8 l)\/(s7.2=false/\16+D9 l+H8 l<=l.length/\m1=num (l.take 4)/\m2=num ((l.drop 4).take 8)/\fl=P6 l/\k=D9 l/\v=H8 l/\
  key=(l.drop 16).take k/\val=(l.drop (16+k)).take v)):=by
 have yU:∀{x:List UInt8},s5=(x,true)->k<256->v<65536->l.length<16->k<256/\v<65536/\((s7.2=true/\l.length<16+D9 l+H8 l)\/(s7.2=false/\16+D9 l+H8 l<=l.length/\m1=num (l.take 4)/\m2=num ((l.drop 4).take 8)/\fl=P6 l/\k=D9 l/\v=H8 l/\
  key=(l.drop 16).take k/\val=(l.drop (16+k)).take v)):=by
  intro x hx hk hv hl;subst hx;rw[Zx] at e6;injection e6 with _ e6;subst e6;rw[Zx] at e7;injection e7 with _ e7;subst e7;exact⟨hk,hv,.inl ⟨rfl,by omega⟩⟩
 by_cases h4:l.length<4
 ·rw[Df h4] at e1;injection e1 with _ e1;subst e1;rw[wP] at e2;injection e2 with _ e2;subst e2;rw[wP] at e3;injection e3 with _ e3;subst e3;rw[wP] at e4;injection e4 with e4' e4;subst e4;subst e4';rw[wP] at e5;injection e5 with e5' e5;subst e5';exact yU e5 (by omega) (by omega) (by omega)
 rw[CP (by omega)] at e1;injection e1 with f1 e1;subst e1;by_cases h12:l.length<12
 ·rw[Df (by simp;omega)] at e2;injection e2 with _ e2;subst e2;rw[wP] at e3;injection e3 with _ e3;subst e3;rw[wP] at e4;injection e4 with e4' e4;subst e4;subst e4';rw[wP] at e5;injection e5 with e5' e5;subst e5';exact yU e5 (by omega) (by omega) (by omega)
 rw[CP (by simp;omega)] at e2;injection e2 with f2 e2;subst e2;by_cases h13:l.length<13
 ·rw[Df (by simp;omega)] at e3;injection e3 with _ e3;subst e3;rw[wP] at e4;injection e4 with e4' e4;subst e4;subst e4';rw[wP] at e5;injection e5 with e5' e5;subst e5';exact yU e5 (by omega) (by omega) (by omega)
 rw[CP (by simp;omega)] at e3;injection e3 with f3 e3;subst e3;by_cases BP:l.length<14
 ·rw[Df (by simp;omega)] at e4;injection e4 with e4' e4;subst e4;subst e4';rw[wP] at e5;injection e5 with e5' e5;subst e5';exact yU e5 (by omega) (by omega) (by omega)
 rw[CP (by simp;omega)] at e4;injection e4 with f4 e4;subst e4;have hk:k<256:=by rw[f4];exact O8 _ 1
 by_cases h16:l.length<16
 ·rw[Df (by simp;omega)] at e5;injection e5 with e5' e5;subst e5';exact yU e5 hk (by omega) (by omega)
 rw[CP (by simp;omega)] at e5;injection e5 with f5 e5;subst e5;have hv:v<65536:=by rw[f5];exact O8 _ 2
 simp only[lM,Nat.reduceAdd] at *;have gk:k=D9 l:=f4;have gv:v=H8 l:=f5;refine⟨hk,hv,?_⟩;by_cases hk2:l.length<16+k
 ·rw[G1 (by simp;omega)] at e6;injection e6 with _ e6;subst e6;rw[Zx] at e7;injection e7 with _ e7;subst e7;exact .inl ⟨rfl,by omega⟩
 rw[tB (by simp;omega)] at e6;injection e6 with f6 e6;subst e6;by_cases hv2:l.length<16+k+v
 ·rw[G1 (by simp;omega)] at e7;injection e7 with _ e7;subst e7;exact .inl ⟨rfl,by omega⟩
 rw[tB (by simp;omega)] at e7;injection e7 with f7 e7;subst e7;exact .inr ⟨rfl,by omega,f1,f2,f3,gk,gv,f6,by rw[f7,lM]⟩
theorem JL(b:UInt8):b.toNat<256:=b.toNat_lt
end Pl
end Go.Proofs.YtgpbhjjajpbeeaaGreatDoor
namespace Go.Proofs.YtgpbhjjajpbeeaaGreatDoor
section
open Go.RowKit Go.Lib
theorem J6(s:ByteArray):s.data.toList.length=s.size:=by rw[kX];rfl
theorem X1(s:ByteArray):s.toList.isEmpty=decide (s.size=0):=by
 rw[Lib.toList_data,<-J6];cases s.data.toList<;>simp
def EC(w:World)(a:Addr)(xs:List Value):Prop:=∀i x,xs[i]?=some x->w.cell? (a.add i)=some x
def uZ(w:World)(v:Value)(n:Nat)(xs:List Value):Prop:=
 ∃(a:Option Addr)(cap:Nat),v=.slice a n cap/\n<=cap/\(cap<=9223372036854775807/\(a=none->cap=0))/\(xs≠[]->∃b,a=some b/\EC w b xs)
def dX(b:UInt8):Value:=.int .u8 b.toNat
theorem EP(l:List UInt8):∀u∈l.map dX,u.oneCell'=true:=by
 intro u hu;obtain⟨b,_,rfl⟩:=bg.1 hu;rfl
def Bytes(w:World)(v:Value)(l:List UInt8):Prop:=uZ w v l.length (l.map dX)
def Ints(w:World)(v:Value)(l:List Int):Prop:=uZ w v l.length (l.map (Value.int .i64))
abbrev Ext(w w':World):Prop:=Below w.heap.size w w'
theorem Ext.refl(w:World):Ext w w:=Below.refl _ _
theorem Ext.trans{a b c:World}(h:Ext a b)(k:Ext b c):Ext a c:=Below.trans h (k.mono h.size)
theorem Ext.drewN(w:World)(n:Nat):Ext w (w.drewN n):=by
 induction n with
 | zero=>exact Ext.refl w
 | succ n ih=>exact Below.drew ih
theorem Ext.cell{w w':World}(h:Ext w w'){a:Addr}{v:Value}(hc:w.cell? a=some v):w'.cell? a=some v:=
 (Below.cell h (World.block_lt_of_cell? w a hc)).trans hc
theorem Ext.new{w w':World}(h:Ext w w')(o:Obj):Ext w (w'.alloc o):=Below.alloc h h.size o
theorem EC.ext{w w':World}(h:Ext w w'){a:Addr}{xs:List Value}(hc:EC w a xs):EC w' a xs:=
 λi x hx=>h.cell (hc i x hx)
theorem uZ.ext{w w':World}(h:Ext w w'){v:Value}{n:Nat}{xs:List Value}(hs:uZ w v n xs):uZ w' v n xs:=by
 obtain⟨a,cap,rfl,h1,h2,h3⟩:=hs;exact⟨a,cap,rfl,h1,h2,λhx=>let ⟨b,hb,hc⟩:=h3 hx;⟨b,hb,hc.ext h⟩⟩
theorem Bytes.ext{w w':World}(h:Ext w w'){v:Value}{l:List UInt8}(hs:Bytes w v l):Bytes w' v l:=uZ.ext h hs
theorem Ints.ext{w w':World}(h:Ext w w'){v:Value}{l:List Int}(hs:Ints w v l):Ints w' v l:=uZ.ext h hs
theorem Bytes.open{w:World}{v:Value}{l:List UInt8}(h:Bytes w v l):
 ∃(a:Option Addr)(cap:Nat),v=.slice a l.length cap/\l.length<=cap/\cap<=9223372036854775807/\
  ∀i,(hi:i<l.length)->∃b,a=some b/\w.cell? (b.add i)=some (.int .u8 (l[i]).toNat):=by
 obtain⟨a,cap,rfl,h1,h2,h3⟩:=h;refine⟨a,cap,rfl,h1,h2.1,λi hi=>?_⟩;obtain⟨b,hb,hc⟩:=h3 (by intro e;simp at e;subst e;simp at hi);exact⟨b,hb,hc i _ (by simp[hi,dX])⟩
theorem Ints.open{w:World}{v:Value}{l:List Int}(h:Ints w v l):
 ∃(a:Option Addr)(cap:Nat),v=.slice a l.length cap/\l.length<=cap/\cap<=9223372036854775807/\
  ∀i,(hi:i<l.length)->∃b,a=some b/\w.cell? (b.add i)=some (.int .i64 l[i]):=by
 obtain⟨a,cap,rfl,h1,h2,h3⟩:=h;refine⟨a,cap,rfl,h1,h2.1,λi hi=>?_⟩;obtain⟨b,hb,hc⟩:=h3 (by intro e;simp at e;subst e;simp at hi);exact⟨b,hb,hc i _ (by simp[hi])⟩
theorem JY:(prog.info? 5).map (λi=>(i.zero,i.size,i.bytes))=some (some (.int .u8 0),1,1):=by kernel_rfl
theorem ZF:(prog.info? 3).map (λi=>(i.zero,i.size,i.bytes))=some (some (.int .i64 0),1,8):=by kernel_rfl
theorem ownsRow_ne{w:World}{base:Nat}{e t:TypeId}{size:Nat}{v:Value}{n:Nat}{xs:List Value}(h:w.ownsRow base e size v n xs)
 {b:Nat}{cs:Array Value}{fr:Nat×Nat}(hb:w.heap[b]?=some (.cells cs t fr))(ht:t≠e):v.ownBlock≠some b:=by
 rcases h.2 with⟨rfl,_⟩|⟨g,cap,cur,rfl,hg,hh,r⟩
 ·simp[Value.ownBlock]
 ·intro e';simp only[Value.ownBlock,bJ] at e';subst e';rw[hb] at hh;injection hh with hh;injection hh with _ h2 _;exact ht h2
theorem ownsRow_form{w:World}{base:Nat}{e:TypeId}{size:Nat}{v:Value}{n:Nat}{xs:List Value}(h:w.ownsRow base e size v n xs):∃(a:Option Addr)(c:Nat),v=.slice a n c:=by
 rcases h.2 with⟨rfl,rfl⟩|⟨g,cap,cur,rfl,r⟩
 ·exact⟨none,0,rfl⟩
 ·exact⟨_,_,rfl⟩
theorem a9l(s:ByteArray):strCells s=s.data.toList.map dX:=rfl
def OwnB(w:World)(B:Nat)(v:Value)(l:List UInt8):Prop:=w.ownsRow B 5 1 v l.length (l.map dX)
theorem OwnB.bytes{w:World}{B:Nat}{v:Value}{l:List UInt8}(h:OwnB w B v l):Bytes w v l:=by
 have hh:=h;rcases h.2 with⟨rfl,h0⟩|⟨g,cap,cur,rfl,hb,hg,h1,h2,h3,h4⟩
 ·have:l=[]:=cZ h0;subst this;exact⟨none,0,rfl,by simp,⟨by omega,λ_=>rfl⟩,by simp⟩
 ·exact⟨some ⟨g,0,none⟩,cap,rfl,h1,⟨by unfold maxLen at h2;omega,λh=>by cases h⟩,λ_=>⟨_,rfl,λi x hx=>hh.cells rfl i x hx⟩⟩
theorem O4{w:World}{base base':Nat}{e:TypeId}{size:Nat}{v:Value}{n:Nat}{xs:List Value}(h:w.ownsRow base e size v n xs)(hb:base'<=base):w.ownsRow base' e size v n xs:=by
 obtain⟨h1,h2⟩:=h;refine⟨h1,?_⟩;rcases h2 with h2|⟨g,cap,cur,rfl,hg,hh,r⟩
 ·exact Or.inl h2
 ·exact Or.inr ⟨g,cap,cur,rfl,ay hb hg,hh,r⟩
theorem ownsRow_below{w w':World}{base:Nat}{e:TypeId}{size:Nat}{v:Value}{n:Nat}{xs:List Value}(h:w.ownsRow base e size v n xs)
 (hb:Below w.heap.size w w'):w'.ownsRow base e size v n xs:=by
 obtain⟨h1,h2⟩:=h;refine⟨h1,?_⟩;rcases h2 with h2|⟨g,cap,cur,rfl,hg,hh,r⟩
 ·exact Or.inl h2
 ·exact Or.inr ⟨g,cap,cur,rfl,hg,(hb.block g (lt_of_block hh)).trans hh,r⟩
theorem EC.drop{w:World}{a:Addr}{xs:List Value}(h:EC w a xs)(k:Nat):EC w (a.add k) (xs.drop k):=by
 intro i x hx;have e:(a.add k).add i=a.add (k+i):=by
  unfold Addr.add;split<;>split<;>(try split)<;>simp_all<;>omega
 rw[e];exact h _ _ (by rw[<-lK];exact hx)
theorem Bytes.sliced{w:World}{a:Option Addr}{n cap:Nat}{l:List UInt8}(h:Bytes w (.slice a n cap) l)(i j:Nat)(hij:i<=j)(hj:j<=l.length):
 Bytes w (.slice (if cap=i then a else a.map (·.add i)) (j - i) (cap - i)) ((l.take j).drop i):=by
 obtain⟨a',c,hv,h1,h2,h3⟩:=h;injection hv with ha hn hc;subst ha;subst hc;have hlen:((l.take j).drop i).length=j - i:=by rw[dD,bD];omega
 unfold Bytes;rw[hlen];refine⟨_,_,rfl,by omega,⟨by omega,λhn=>?_⟩,λhx=>?_⟩
 ·have:a=none:=by
   cases a with
   | none=>rfl
   | some b=>split at hn<;>simp at hn
  have:=h2.2 this;omega
 have hne:l.map dX≠[]:=by intro e;apply hx;simp at e;subst e;simp
 obtain⟨b,hb,hcell⟩:=h3 hne;subst hb;by_cases hci:cap=i
 ·exfalso;apply hx;apply cZ;rw[b_,hlen];omega
 ·refine⟨b.add i,by simp[hci],?_⟩;intro m x hm;refine EC.drop hcell i m x ?_;rw[lK] at *;simp only[aZ,dA,lK] at hm⊢;split at hm
  ·exact hm
  ·simp at hm
theorem ax{P:Program}(w:World)(base:Nat)(t ty e:TypeId)(i:TypeInfo)(z:Value)(size bytes:Nat)(ht:P.underlying t=some (.slice e))(hi:P.info? e=some i)(hz:i.zero=some z)
 (hsize:i.size=size)(hby:i.bytes=bytes)(hzs:z.cells.size=size)(hsz:0<size)
 (v:Value)(n:Nat)(xs:List Value)(hown:w.ownsRow base e size v n xs)(x:Value)(m:Nat)(news:List Value)(hx:uZ w x m news)(hl:news.length=m*size)(h1:∀u∈news,u.oneCell'=true)
 (h63:n+m<=maxLen)(hbytes:(n+m)*bytes<=140737488355328)(hbase:base<=w.heap.size):
 ∃v' w',(Builtin.append_ #[t,t] ty #[v,x]).run P w=.ok v' w'/\w'.ownsRow base e size v' (n+m) (xs++news)/\w.grownBy w' v.ownBlock/\(v'.ownBlock=v.ownBlock\/v'.ownBlock=some w.heap.size):=by
 obtain⟨a,c,rfl,hc1,⟨hc2,hc3⟩,hc⟩:=hx
 cases a with
 | none=>
  obtain rfl:=hc3 rfl;obtain rfl:m=0:=by omega
  obtain rfl:news=[]:=cZ (by simpa using hl)
  exact⟨v,w,run_append_owned_none (P:=P) (w:=w) base t ty e i size ht hi v n xs hown,by simpa using hown,World.grownBy.refl w _,.inl rfl⟩
 | some ad=>
  have hcell:∀j u,news[j]?=some u->w.cell? (ad.add j)=some u:=by
   intro j u hu;obtain⟨b,hb,hcc⟩:=hc (by intro e;subst e;simp at hu);injection hb with hb;subst hb;exact hcc j u hu
  obtain⟨v',w',r1,r2,r3,_,r5⟩:=run_append_own_at (P:=P) w base t ty e i z size bytes ht hi hz hsize hby hzs hsz v n xs hown ad m c news hl hcell h1 h63 hbytes hbase;exact⟨v',w',r1,r2,r3,r5⟩
theorem D8{P:Program}{w:World}{ops:Array Oper}{rest:List Oper}{o:Oper}{a:Act}{Q:Exit->Act->World->Prop}(hgd:o.guard=none)(s x:Operand)(t:TypeId)
 (ho:o.op=.call {callee:=.builtin .append,args:=#[s,x],argTypes:=#[t,t]})
 (base:Nat)(e:TypeId)(i:TypeInfo)(z:Value)(size bytes:Nat)(ht:P.underlying t=some (.slice e))(hi:P.info? e=some i)(hz:i.zero=some z)
 (hsize:i.size=size)(hby:i.bytes=bytes)(hzs:z.cells.size=size)(hsz:0<size)
 (v:Value)(n:Nat)(xs:List Value)(hs:a.eval s=v)(hown:w.ownsRow base e size v n xs)(y:Value)(m:Nat)(news:List Value)(hy:a.eval x=y)(hx:uZ w y m news)(hl:news.length=m*size)(h1:∀u∈news,u.oneCell'=true)
 (h63:n+m<=maxLen)(hbytes:(n+m)*bytes<=140737488355328)(hbase:base<=w.heap.size)
 (h:∀b c w',w'.ownsRow base e size (.slice b (n+m) c) (n+m) (xs++news)->w.grownBy w' v.ownBlock->((Value.slice b (n+m) c).ownBlock=v.ownBlock\/(Value.slice b (n+m) c).ownBlock=some w.heap.size)->wpList P ops Q rest (a.put o.dst (.slice b (n+m) c)) w'):
 wpList P ops Q (o::rest) a w:=by
 refine wpList_plain hgd λK hK=>?_;obtain⟨v',w',hrun,h2,h3,h4⟩:=ax (P:=P) w base t o.type e i z size bytes ht hi hz hsize hby hzs hsz v n xs hown y m news hx hl h1 h63 hbytes hbase;obtain⟨b,c,rfl⟩:=ownsRow_form h2;unfold Oper.wp execOp;simp only[ho,resolve,invoke,builtin,Sem.run_bind,Sem.run_pure,Result.andThen_ok,eH,aB,dJ,hs,hy,hrun];exact hK _ _ (h b c w' h2 h3 h4)
theorem wpList_append_text{P:Program}{w:World}{ops:Array Oper}{rest:List Oper}{o:Oper}{a:Act}{Q:Exit->Act->World->Prop}(hgd:o.guard=none)(sl x:Operand)(t u:TypeId)
 (ho:o.op=.call {callee:=.builtin .append,args:=#[sl,x],argTypes:=#[t,u]})
 (base:Nat)(e:TypeId)(i:TypeInfo)(ht:P.underlying t=some (.slice e))(hu:P.underlying u=some .string)(hi:P.info? e=some i)(hz:i.zero=some (.int .u8 0))
 (hsize:i.size=1)(hby:i.bytes=1)
 (v:Value)(l:List UInt8)(hs:a.eval sl=v)(hown:w.ownsRow base e 1 v l.length (l.map dX))(s:ByteArray)(hx:a.eval x=.string s)
 (h63:l.length+s.size<=maxLen)(hbytes:l.length+s.size<=140737488355328)(hbase:base<=w.heap.size)
 (h:∀b c w',w'.ownsRow base e 1 (.slice b (l.length+s.size) c) (l++s.data.toList).length ((l++s.data.toList).map dX)->w.grownBy w' v.ownBlock->wpList P ops Q rest (a.put o.dst (.slice b (l.length+s.size) c)) w'):wpList P ops Q (o::rest) a w:=by
 refine wpList_append_own_string w hgd sl x t u ho base e i ht hu hi hz hsize hby v l.length (l.map dX) hs hown s hx h63 hbytes hbase ?_;intro v' w' h1 h2 _;obtain⟨b,c,rfl⟩:=ownsRow_form h1;refine h b c w' ?_ h2;rw[a9l,<-bY] at h1;rw[show(l++s.data.toList).length=l.length+s.size by rw[aC,J6]];exact h1
theorem OwnB.tail{w:World}{B g n cap k:Nat}{l:List UInt8}(h:OwnB w B (.slice (some ⟨g,0,none⟩) n cap) l)(hk:k<=l.length)(hk0:0<k):
 (cap≠k->Bytes w (.slice (some ⟨g,k,none⟩) (l.length - k) (cap - k)) (l.drop k))/\(cap=k->Bytes w (.slice (some ⟨g,0,none⟩) (l.length - k) 0) (l.drop k)):=by
 obtain⟨a,c,hv,h1,h2,h3⟩:=h.bytes;injection hv with ha hn hc;subst hc;constructor
 ·intro _;refine⟨_,_,by rw[dD],by rw[dD];omega,⟨by omega,λh=>by cases h⟩,λhx=>⟨_,rfl,λi x hi=>?_⟩⟩;obtain⟨b,hb,hcell⟩:=h3 (by intro e;simp at e;subst e;simp at hx);rw[<-ha] at hb;injection hb with hb;have:=hcell (k+i) x (by rw[<-lK,<-List.map_drop];exact hi);rw[<-hb] at this;have e:(⟨g,0,none⟩:Addr).add (k+i)=(⟨g,k,none⟩:Addr).add i:=by
   unfold Addr.add;split<;>(try split)<;>simp_all<;>omega
  rw[<-e];exact this
 ·intro e;have:l.length=k:=by omega
  refine⟨_,_,by rw[dD],by rw[dD];omega,⟨by omega,λh=>by cases h⟩,λhx=>?_⟩;exfalso;apply hx;simp;omega
end
section
open Go.RowKit Go.Extern.Stop Go.Stop Go.Extern
theorem methodKind(h:Value)(w:World):(Go.method 495 275 (.agg #[h]) "Kind").run prog w=.ok (248,h) w:=by kernel_rfl
theorem methodElem(h:Value)(w:World):(Go.method 495 275 (.agg #[h]) "Elem").run prog w=.ok (261,.agg #[h]) w:=by kernel_rfl
theorem methodImplements(h:Value)(w:World):(Go.method 495 275 (.agg #[h]) "Implements").run prog w=.ok (262,.agg #[h]) w:=by kernel_rfl
theorem methodAssignableTo(h:Value)(w:World):(Go.method 495 275 (.agg #[h]) "AssignableTo").run prog w=.ok (259,.agg #[h]) w:=by kernel_rfl
theorem rlm(z:Sem Value)(f:TypeId->Addr->Nat->Nat->Sem Value)(v:Value):
 ReflectliteValue.method z f #[v]=(do match <-ReflectliteValue.parts v with|none=>z|some (t,a,fl)=>f t a fl (fl%32)):=rfl
theorem rls(v x:Value):ReflectliteValue.set #[v,x]=(do
 let (some (dst,a,fl),some (src,b,_)):=(<-ReflectliteValue.parts v,<-ReflectliteValue.parts x)
  | unsupported (.noEntry "extern/(internal/reflectlite.Value).Set.zeroValue")
 if fl/ReflectliteValue.flagAddr%2==0 then unsupported (.noEntry "extern/(internal/reflectlite.Value).Set.unaddressable")
 let val <-loadVar src b
 if <-Rtype.directlyAssignable dst src then storeVar dst a val
 else if <-Rtype.implements dst src then
  if (<-Rtype.kind src)==20 then
   match val with
   | .nilIface=>unsupported (.noEntry "extern/reflectlite: a nil value of one interface type handed on as a value of another")
   | _=>storeVar dst a val
  else storeVar dst a (.iface src val)
 else panicString ("reflectlite.Set: value of type "++(<-Rtype.spelt src)++ " is not assignable to type "++(<-Rtype.spelt dst))
 pure (.tuple #[])):=rfl
theorem Ly(t:Addr)(w:World):(ReflectliteValue.unpack (.iface 162 (.pointer (some t)))).run prog w
 = .ok (.agg #[.pointer (some ⟨7,162,none⟩),.pointer (some ⟨w.heap.size,0,none⟩),.int .u64 150]) (w.alloc (.cells #[.pointer (some t)] 162)):=by kernel_rfl
theorem vo(a:Addr)(w:World):(ReflectliteValue.methodAny (ReflectliteValue.valueError "reflectlite.Value.Type" 0) (λt _ _ _=>ReflectliteType.toType t) #[.agg #[.pointer (some ⟨7,162,none⟩),.pointer (some a),.int .u64 150]]).run prog w
 = .ok (.iface 275 (.agg #[.pointer (some ⟨7,162,none⟩)])) w:=by kernel_rfl
theorem vn(w:World):((ReflectliteType.abiMethod λt=>Functor.map (λa:Nat=>Value.int IntKind.u8 (a:Int)) (Rtype.kind t)) #[.pointer (some ⟨7,162,none⟩)]).run prog w=.ok (.int .u8 22) w:=by kernel_rfl
theorem vm(w:World):((ReflectliteType.abiMethod λt=>Functor.map (λa:Nat=>Value.int IntKind.u8 (a:Int)) (Rtype.kind t)) #[.pointer (some ⟨7,132,none⟩)]).run prog w=.ok (.int .u8 22) w:=by kernel_rfl
theorem wm(a:Addr)(w:World):(ReflectliteValue.parts (.agg #[.pointer (some ⟨7,162,none⟩),.pointer (some a),.int .u64 150])).run prog w=.ok (some (162,a,150)) w:=by kernel_rfl
theorem wj(a p:Addr)(W:World)(ha:W.cell? a=some (.pointer (some p))):
 (ReflectliteValue.method (ReflectliteValue.valueError "reflectlite.Value.IsNil" 0) ReflectliteValue.isNil #[.agg #[.pointer (some ⟨7,162,none⟩),.pointer (some a),.int .u64 150]]).run prog W=.ok (.bool false) W:=by
 rw[rlm];simp only[Sem.run_bind,wm,Result.andThen];simp[ReflectliteValue.isNil,loadVar,isAgg,underlying,underlying162,ha,Result.andThen]
theorem vj(w:World):(ReflectliteType.method ReflectliteType.elem #[.agg #[.pointer (some ⟨7,162,none⟩)]]).run prog w=.ok (.iface 275 (.agg #[.pointer (some ⟨7,132,none⟩)])) w:=by kernel_rfl
theorem an(w:World):(ReflectliteType.relation "Implements" ReflectliteType.implements_ #[.agg #[.pointer (some ⟨7,132,none⟩)],.iface 275 (.agg #[.pointer (some ⟨7,34,none⟩)])]).run prog w=.ok (.bool true) w:=by kernel_rfl
theorem b9z(v:Value)(w:World):(ReflectliteType.typeOf #[.iface 132 v]).run prog w=.ok (.iface 275 (.agg #[.pointer (some ⟨7,132,none⟩)])) w:=by kernel_rfl
theorem b1P(w:World):(ReflectliteType.relation "AssignableTo" ReflectliteType.assignableTo #[.agg #[.pointer (some ⟨7,132,none⟩)],.iface 275 (.agg #[.pointer (some ⟨7,132,none⟩)])]).run prog w=.ok (.bool true) w:=by kernel_rfl
theorem b7f(e:Addr)(w:World):(ReflectliteValue.unpack (.iface 132 (.pointer (some e)))).run prog w
 = .ok (.agg #[.pointer (some ⟨7,132,none⟩),.pointer (some ⟨w.heap.size,0,none⟩),.int .u64 150]) (w.alloc (.cells #[.pointer (some e)] 132)):=by kernel_rfl
theorem b9A(w:World):(Rtype.elem? 162).run prog w=.ok (some 132) w:=by kernel_rfl
theorem xN(p:Addr)(w:World):(ReflectliteValue.mk 132 p ReflectliteValue.flagAddr).run prog w=.ok (.agg #[.pointer (some ⟨7,132,none⟩),.pointer (some p),.int .u64 406]) w:=by kernel_rfl
theorem R1(a p:Addr)(W:World)(ha:W.cell? a=some (.pointer (some p))):
 (ReflectliteValue.method (ReflectliteValue.valueError "reflectlite.Value.Elem" 0) ReflectliteValue.elem #[.agg #[.pointer (some ⟨7,162,none⟩),.pointer (some a),.int .u64 150]]).run prog W
  = .ok (.agg #[.pointer (some ⟨7,132,none⟩),.pointer (some p),.int .u64 406]) W:=by
 rw[rlm];simp only[Sem.run_bind,wm,Result.andThen];simp[ReflectliteValue.elem,loadVar,isAgg,underlying,underlying162,ha,Result.andThen,b9A,xN]
theorem b9B(a:Addr)(w:World):(ReflectliteValue.parts (.agg #[.pointer (some ⟨7,132,none⟩),.pointer (some a),.int .u64 406])).run prog w=.ok (some (132,a,406)) w:=by kernel_rfl
theorem c2T(a:Addr)(w:World):(ReflectliteValue.parts (.agg #[.pointer (some ⟨7,132,none⟩),.pointer (some a),.int .u64 150])).run prog w=.ok (some (132,a,150)) w:=by kernel_rfl
theorem b9C(w:World):(Rtype.directlyAssignable 132 132).run prog w=.ok true w:=by kernel_rfl
theorem F_(ta b:Addr)(e:Addr)(old:Value)(W:World)(hb:W.cell? b=some (.pointer (some e)))(ht:W.cell? ta=some old)(hf:W.frozen? ta=false):
 (ReflectliteValue.set #[.agg #[.pointer (some ⟨7,132,none⟩),.pointer (some ta),.int .u64 406],.agg #[.pointer (some ⟨7,132,none⟩),.pointer (some b),.int .u64 150]]).run prog W
  = .ok (.tuple #[]) (W.setCell ta (.pointer (some e))):=by
 rw[rls];simp only[Sem.run_bind,b9B,c2T,Result.andThen];simp[ReflectliteValue.flagAddr,loadVar,isAgg,underlying,underlying132,hb,Result.andThen,b9C,storeVar,Value.cells,storeCells,Addr.add];rw[run_store prog W ta _ _ (by rfl)];simp[ht,hf]
theorem b7g(t:Addr)(w:World):(ReflectliteValue.unpack (.iface 163 (.pointer (some t)))).run prog w
 = .ok (.agg #[.pointer (some ⟨7,163,none⟩),.pointer (some ⟨w.heap.size,0,none⟩),.int .u64 150]) (w.alloc (.cells #[.pointer (some t)] 163)):=by kernel_rfl
theorem Re(a:Addr)(w:World):(ReflectliteValue.methodAny (ReflectliteValue.valueError "reflectlite.Value.Type" 0) (λt _ _ _=>ReflectliteType.toType t) #[.agg #[.pointer (some ⟨7,163,none⟩),.pointer (some a),.int .u64 150]]).run prog w
 = .ok (.iface 275 (.agg #[.pointer (some ⟨7,163,none⟩)])) w:=by kernel_rfl
theorem QR(w:World):((ReflectliteType.abiMethod λt=>Functor.map (λa:Nat=>Value.int IntKind.u8 (a:Int)) (Rtype.kind t)) #[.pointer (some ⟨7,163,none⟩)]).run prog w=.ok (.int .u8 22) w:=by kernel_rfl
theorem QQ(w:World):((ReflectliteType.abiMethod λt=>Functor.map (λa:Nat=>Value.int IntKind.u8 (a:Int)) (Rtype.kind t)) #[.pointer (some ⟨7,37,none⟩)]).run prog w=.ok (.int .u8 2) w:=by kernel_rfl
theorem wh(a:Addr)(w:World):(ReflectliteValue.parts (.agg #[.pointer (some ⟨7,163,none⟩),.pointer (some a),.int .u64 150])).run prog w=.ok (some (163,a,150)) w:=by kernel_rfl
theorem c2V(a p:Addr)(W:World)(ha:W.cell? a=some (.pointer (some p))):
 (ReflectliteValue.method (ReflectliteValue.valueError "reflectlite.Value.IsNil" 0) ReflectliteValue.isNil #[.agg #[.pointer (some ⟨7,163,none⟩),.pointer (some a),.int .u64 150]]).run prog W=.ok (.bool false) W:=by
 rw[rlm];simp only[Sem.run_bind,wh,Result.andThen];simp[ReflectliteValue.isNil,loadVar,isAgg,underlying,underlying163,ha,Result.andThen]
theorem QP(w:World):(ReflectliteType.method ReflectliteType.elem #[.agg #[.pointer (some ⟨7,163,none⟩)]]).run prog w=.ok (.iface 275 (.agg #[.pointer (some ⟨7,37,none⟩)])) w:=by kernel_rfl
theorem b1Q(w:World):(ReflectliteType.relation "Implements" ReflectliteType.implements_ #[.agg #[.pointer (some ⟨7,37,none⟩)],.iface 275 (.agg #[.pointer (some ⟨7,34,none⟩)])]).run prog w=.ok (.bool true) w:=by kernel_rfl
theorem Uk(v:Value)(w:World):(ReflectliteType.typeOf #[.iface 37 v]).run prog w=.ok (.iface 275 (.agg #[.pointer (some ⟨7,37,none⟩)])) w:=by kernel_rfl
theorem b1R(w:World):(ReflectliteType.relation "AssignableTo" ReflectliteType.assignableTo #[.agg #[.pointer (some ⟨7,37,none⟩)],.iface 275 (.agg #[.pointer (some ⟨7,37,none⟩)])]).run prog w=.ok (.bool true) w:=by kernel_rfl
theorem b7h(n:Int)(w:World):(ReflectliteValue.unpack (.iface 37 (.int .i64 n))).run prog w
 = .ok (.agg #[.pointer (some ⟨7,37,none⟩),.pointer (some ⟨w.heap.size,0,none⟩),.int .u64 130]) (w.alloc (.cells #[.int .i64 n] 37)):=by kernel_rfl
theorem b9D(w:World):(Rtype.elem? 163).run prog w=.ok (some 37) w:=by kernel_rfl
theorem A1(p:Addr)(w:World):(ReflectliteValue.mk 37 p ReflectliteValue.flagAddr).run prog w=.ok (.agg #[.pointer (some ⟨7,37,none⟩),.pointer (some p),.int .u64 386]) w:=by kernel_rfl
theorem P'(a p:Addr)(W:World)(ha:W.cell? a=some (.pointer (some p))):
 (ReflectliteValue.method (ReflectliteValue.valueError "reflectlite.Value.Elem" 0) ReflectliteValue.elem #[.agg #[.pointer (some ⟨7,163,none⟩),.pointer (some a),.int .u64 150]]).run prog W
  = .ok (.agg #[.pointer (some ⟨7,37,none⟩),.pointer (some p),.int .u64 386]) W:=by
 rw[rlm];simp only[Sem.run_bind,wh,Result.andThen];simp[ReflectliteValue.elem,loadVar,isAgg,underlying,underlying163,ha,Result.andThen,b9D,A1]
theorem b9E(a:Addr)(w:World):(ReflectliteValue.parts (.agg #[.pointer (some ⟨7,37,none⟩),.pointer (some a),.int .u64 386])).run prog w=.ok (some (37,a,386)) w:=by kernel_rfl
theorem c2W(a:Addr)(w:World):(ReflectliteValue.parts (.agg #[.pointer (some ⟨7,37,none⟩),.pointer (some a),.int .u64 130])).run prog w=.ok (some (37,a,130)) w:=by kernel_rfl
theorem b9F(w:World):(Rtype.directlyAssignable 37 37).run prog w=.ok true w:=by kernel_rfl
theorem FS9(ta b:Addr)(n:Int)(old:Value)(W:World)(hb:W.cell? b=some (.int .i64 n))(ht:W.cell? ta=some old)(hf:W.frozen? ta=false):
 (ReflectliteValue.set #[.agg #[.pointer (some ⟨7,37,none⟩),.pointer (some ta),.int .u64 386],.agg #[.pointer (some ⟨7,37,none⟩),.pointer (some b),.int .u64 130]]).run prog W
  = .ok (.tuple #[]) (W.setCell ta (.int .i64 n)):=by
 rw[rls];simp only[Sem.run_bind,b9E,c2W,Result.andThen];simp[ReflectliteValue.flagAddr,loadVar,isAgg,underlying,underlying37,hb,Result.andThen,b9F,storeVar,Value.cells,storeCells,Addr.add];rw[run_store prog W ta _ _ (by rfl)];simp[ht,hf]
theorem b1S(w:World):(ReflectliteType.relation "AssignableTo" ReflectliteType.assignableTo #[.agg #[.pointer (some ⟨7,37,none⟩)],.iface 275 (.agg #[.pointer (some ⟨7,132,none⟩)])]).run prog w=.ok (.bool false) w:=by kernel_rfl
end
end Go.Proofs.YtgpbhjjajpbeeaaGreatDoor
