/- A part of what the last file proves. -/
import Derived.Test.YtgpbhjjajpbeeaaGreatDoorR13
import Derived.Test.YtgpbhjjajpbeeaaGreatDoorR15
import Derived.Conc.CompanyCalls
import Derived.Conc.CompanyMem
import Derived.Conc.DeferLaws
set_option linter.all false
set_option maxRecDepth 100000
namespace Go.To
section
open Go.Conc
open Zn (ext low kk Gr K0 Nx tp tp_self tp_tp)
set_option linter.unusedSectionVars false
section
variable[Lo]
def c0q(P:Program)(Ψ:Goroutine->World->(Nat->Prop)->Prop)(b:Frame)(k:List Item)(cs:List Frame):Exit->Act->World->(Nat->Prop)->Prop
 | .normal,a,w,Sh=>To P (G (b.at a k) cs) w Sh Ψ
 | .exit id,a,w,Sh=>∃k',exitTo id k=some k'/\To P (G (b.at a k') cs) w Sh Ψ
 | .ret,a,w,Sh=>∀todo,To P (G {b.at a todo with mode:=.returning} cs) w Sh Ψ
 | _,_,_,_=>False
def wpT(P:Program)(fn:FuncId)(c:Code)(Q:Exit->Act->World->(Nat->Prop)->Prop)(a:Act)(w:World)(Sh:Nat->Prop):Prop:=
 ∀(b:Frame)(k:List Item)(cs:List Frame)(Ψ:Goroutine->World->(Nat->Prop)->Prop),b.fn=fn->b.kind=.normal->(∀e a' w' Sh',Q e a' w' Sh'->c0q P Ψ b k cs e a' w' Sh')->To P (G (b.at a (.code c::k)) cs) w Sh Ψ
def a3I(P:Program)(fn:FuncId)(ops:Array Oper)(todo:List Nat)(Q:Exit->Act->World->(Nat->Prop)->Prop)(a:Act)(w:World)(Sh:Nat->Prop):Prop:=
 ∀(b:Frame)(k:List Item)(cs:List Frame)(Ψ:Goroutine->World->(Nat->Prop)->Prop),b.fn=fn->b.kind=.normal->(∀e a' w' Sh',Q e a' w' Sh'->c0q P Ψ b k cs e a' w' Sh')->To P (G (b.at a (.inRegion ops todo::k)) cs) w Sh Ψ
def a7h(next:Act->World->(Nat->Prop)->Prop)(Q:Exit->Act->World->(Nat->Prop)->Prop):Exit->Act->World->(Nat->Prop)->Prop
 | .normal,a,w,Sh=>next a w Sh
 | e,a,w,Sh=>Q e a w Sh
def b1J(id:Nat)(Q:Exit->Act->World->(Nat->Prop)->Prop):Exit->Act->World->(Nat->Prop)->Prop
 | .exit id',a,w,Sh=>if id'=id then Q .normal a w Sh else Q (.exit id') a w Sh
 | e,a,w,Sh=>Q e a w Sh
set_option linter.unusedSectionVars false
variable{P:Program}{fn:FuncId}{Q:Exit->Act->World->(Nat->Prop)->Prop}{a:Act}{w:World}{Sh:Nat->Prop}{Ψ:Goroutine->World->(Nat->Prop)->Prop}{b:Frame}{k:List Item}{cs:List Frame}
theorem c0q.push{x:Item}{e:Exit}(hx:x.plain=true)(he:e≠.normal)(h:c0q P Ψ b k cs e a w Sh):c0q P Ψ b (x::k) cs e a w Sh:=by
 cases e with
 | normal=>exact absurd rfl he
 | exit id=>obtain⟨k',hk,hg⟩:=h;exact⟨k',by cases x<;>simp_all [exitTo,Item.plain],hg⟩
 | ret=>exact h
 | goto l=>exact h
 | panic ch=>exact h
 | outgrown=>exact h
theorem wpT_mono{c:Code}{Q':Exit->Act->World->(Nat->Prop)->Prop}(h:wpT P fn c Q a w Sh)(hq:∀e a w Sh,Q e a w Sh->Q' e a w Sh):wpT P fn c Q' a w Sh:=
 fun b k cs Ψ hb hk hc=>h b k cs Ψ hb hk fun e a' w' Sh' q=>hc e a' w' Sh' (hq e a' w' Sh' q)
theorem b3d(h:Q .normal a w Sh):wpT P fn .skip Q a w Sh:=fun _ _ _ _ _ _ hc=>To.move rfl (fun _=>stepG_skip) (hc _ _ _ _ h)
theorem b1K(h:Q .ret a w Sh):wpT P fn .ret Q a w Sh:=fun _ _ _ _ _ _ hc=>To.move rfl (fun _=>stepG_ret') (hc _ _ _ _ h _)
theorem c0r{id:Nat}(h:Q (.exit id) a w Sh):wpT P fn (.exit id) Q a w Sh:=fun _ _ _ _ _ _ hc=>by
 obtain⟨k',hk',hg⟩:=hc _ _ _ _ h;exact To.move rfl (fun _=>stepG_exit hk') hg
theorem H8{x y:Code}(h:wpT P fn x (a7h (fun a' w' Sh'=>wpT P fn y Q a' w' Sh') Q) a w Sh):wpT P fn (.seq x y) Q a w Sh:=by
 intro b k cs Ψ hb hk hc;refine To.move rfl (fun _=>stepG_seq) (h b (.code y::k) cs Ψ hb hk fun e a' w' Sh' q=>?_)
 cases e with
 | normal=>exact q b k cs Ψ hb hk hc
 | exit id=>exact(hc _ _ _ _ q).push rfl (by simp)
 | ret=>exact(hc _ _ _ _ q).push (x:=.code y) rfl (by simp)
 | goto l=>exact hc _ _ _ _ q
 | panic ch=>exact hc _ _ _ _ q
 | outgrown=>exact hc _ _ _ _ q
theorem a4e{c:Operand}{x y:Code}{t:Bool}(hc:a.eval c=.bool t)(h:wpT P fn (if t then x else y) Q a w Sh):wpT P fn (.cond c x y) Q a w Sh:=
 fun b k cs Ψ hb hk hq=>To.move rfl (fun _=>stepG_cond hc) (h b k cs Ψ hb hk hq)
theorem b0A{id:Nat}{c:Code}(h:wpT P fn c (b1J id Q) a w Sh):wpT P fn (.block id c) Q a w Sh:=by
 intro b k cs Ψ hb hk hc;refine To.move rfl (fun _=>stepG_block) (h b (.inBlock id::k) cs Ψ hb hk fun e a' w' Sh' q=>?_)
 cases e with
 | normal=>exact To.move rfl (fun _=>stepG_inBlock) (hc _ _ _ _ q)
 | exit id'=>
  by_cases hid:id'=id
  ·simp only[b1J,hid,if_true] at q;exact⟨k,by simp[exitTo,hid],hc _ _ _ _ q⟩
  ·simp only[b1J,hid,if_false] at q;obtain⟨k',hk',hg⟩:=hc _ _ _ _ q;have:(id==id')=false:=by simp;exact fun h=>hid h.symm
   exact⟨k',by simp[exitTo,this,hk'],hg⟩
 | ret=>exact hc _ _ _ _ q
 | goto l=>exact hc _ _ _ _ q
 | panic ch=>exact hc _ _ _ _ q
 | outgrown=>exact hc _ _ _ _ q
theorem c0s{c:Code}(I:Nat->Act->World->(Nat->Prop)->Prop){N:Nat}(h0:I N a w Sh)
 (round:∀n a w Sh,I n a w Sh->wpT P fn c (a7h (fun a' w' Sh'=>∃m,m<n/\I m a' w' Sh') Q) a w Sh):wpT P fn (.loop c) Q a w Sh:=by
 intro b k cs Ψ hb hk hc;refine To.move rfl (fun _=>stepG_loop) ?_
 induction N using Nat.strongRecOn generalizing a w Sh with
 | _ N ih=>
  refine round N a w Sh h0 b (.inLoop c::k) cs Ψ hb hk fun e a' w' Sh' q=>?_
  cases e with
  | normal=>
   obtain⟨m,hm,hI⟩:=q
   exact To.move rfl (fun _=>stepG_inLoop) (ih m hm hI)
  | exit id=>exact(hc _ _ _ _ q).push rfl (by simp)
  | ret=>exact(hc _ _ _ _ q).push (x:=.inLoop c) rfl (by simp)
  | goto l=>exact hc _ _ _ _ q
  | panic ch=>exact hc _ _ _ _ q
  | outgrown=>exact hc _ _ _ _ q
theorem O4{id:Nat}{ops:Array Oper}(h:a3I P fn ops (List.range ops.size) Q a w Sh):wpT P fn (.region id ops false) Q a w Sh:=
 fun b k cs Ψ hb hk hc=>To.move rfl (fun _=>stepG_region) (h b k cs Ψ hb hk hc)
theorem U4{ops:Array Oper}(h:Q .normal a w Sh):a3I P fn ops [] Q a w Sh:=fun b k cs Ψ _ _ hc=>To.move rfl (fun _=>stepG_region_end) (hc _ _ _ _ h)
theorem b4N{ops:Array Oper}{i:Nat}{rest:List Nat}{o:Oper}{v:Value}(ho:ops[i]?=some o)(hw:Region.wanted o (yielded ops a.tmps)=true)(hr:∀w,(execOp a.eval o).run P w=.ok (.value v) w)
 (he:∀w,(execOp a.eval o).events P w #[]=#[])(h:a3I P fn ops rest Q (a.put o.dst v) w Sh):a3I P fn ops (i::rest) Q a w Sh:=fun b k cs Ψ hb hk hc=>
 To.move rfl (fun w=>by
  have e:listed P b.fn a o w=#[]:=by unfold listed;rw[he];exact seen_none P _
  rw[stepG_value ho hw (by rw[hk];simp) (hr w),e]) (h b k cs Ψ hb hk hc)
def bodyT(P:Program)(fn:Func)(Post:Value->World->(Nat->Prop)->Prop):Exit->Act->World->(Nat->Prop)->Prop
 | .normal,a,w,Sh|.ret,a,w,Sh=>a.defers=[]/\∃v,ResultsC P fn a.tmps v/\Post v w Sh
 | _,_,_,_=>False
def a8Q(P:Program)(f:FuncId)(args:Array Value)(w:World)(Sh:Nat->Prop)(Post:Value->World->(Nat->Prop)->Prop):Prop:=
 ∃fn c,P.funcs[f]?=some fn/\(fn.name== "runtime.NumGoroutine")=false/\fn.body=some c/\
  wpT P f c (bodyT P fn Post) {tmps:=args++Array.replicate (fn.ntmps - args.size) undef,defers:=[]} w Sh
theorem b7z{ops:Array Oper}{i:Nat}{rest:List Nat}{o:Oper}{f:FuncId}{args:Array Operand}{ats:Array TypeId}{Post:Value->World->(Nat->Prop)->Prop}(ho:ops[i]?=some o)(hw:Region.wanted o (yielded ops a.tmps)=true)
 (hop:o.op=.call {callee:=.value (.func f),args,argTypes:=ats})(hcall:a8Q P f (args.map a.eval) w Sh Post)(h:∀v w' Sh',Post v w' Sh'->a3I P fn ops rest Q (a.put o.dst v) w' Sh'):a3I P fn ops (i::rest) Q a w Sh:=by
 intro b k cs Ψ hb hk hc;obtain⟨fn',c,hf,hname,hbody,hwp⟩:=hcall;have hk':b.kind≠.early:=by rw[hk];simp
 have hfin:∀v,(b.at a (.inRegion ops (i::rest)::k)).finish v=b.at (a.put o.dst v) (.inRegion ops rest::k):=fun v=>by rw[Frame.finish_at,ho];rfl
 have hleave:∀(a':Act)(w':World)(Sh':Nat->Prop)(todo:List Item),(a'.defers=[]/\∃v,ResultsC P fn' a'.tmps v/\Post v w' Sh')->
  To P (G {(base f).at a' todo with mode:=.returning} (b.at a (.inRegion ops (i::rest)::k)::cs)) w' Sh' Ψ:=by
  rintro a' w' Sh' todo ⟨hd,v,hr,hp⟩;refine To.move rfl (fun w₁=>?_) (h v w' Sh' hp b k cs Ψ hb hk hc);rw[stepG_leave (b:=base f) rfl hd hf (hr w₁).1 (hr w₁).2,hfin]
 refine To.move rfl (fun w₁=>?_) (hwp (base f) [] (b.at a (.inRegion ops (i::rest)::k)::cs) Ψ rfl rfl fun e a' w' Sh' q=>?_)
 ·obtain⟨g',w',es,e,e1⟩:=goes_elim (goes_call (K:=fun g' w' es=>g'=_/\w'=w₁/\es=#[]) ho hw hk' hop hf hname hbody ⟨rfl,rfl,rfl⟩:(stepG P true (G (b.at a (.inRegion ops (i::rest)::k)) cs) w₁).goes _);obtain⟨rfl,rfl,rfl⟩:=e1;exact e
 ·cases e with
  | normal=>exact To.move rfl (fun _=>stepG_end) (hleave a' w' Sh' [] q)
  | ret=>exact fun todo=>hleave a' w' Sh' todo q
  | exit id=>exact q.elim
  | goto l=>exact q.elim
  | panic ch=>exact q.elim
  | outgrown=>exact q.elim
end
variable{P:Program}{fn:FuncId}{Q:Exit->Act->World->(Nat->Prop)->Prop}{a:Act}{w:World}{Sh:Nat->Prop}{Ψ:Goroutine->World->(Nat->Prop)->Prop}{b:Frame}{k:List Item}{cs:List Frame}
structure Iv(Z:Zn.Zone)(Sh:Nat->Prop)(X:Tmp->Prop)(a:Act)(w:World):Prop where
 tmps:∀t,X t->Zn.VP (Zn.Zf Z Sh w.heap.size) (a.tmps.getD t undef)
 defers:Zn.MarksP (Zn.Zf Z Sh w.heap.size) a.defers
 W:Zn.WPs Z Sh w
variable{Z:Zn.Zone}{X:Tmp->Prop}
theorem Iv.inv{c:Code}(h:Iv Z Sh X a w)(hk:b.kind=.normal)(hc:Zn.CodeP Z c)(hu:Zn.CodeU X c):Zn.Inv Z Sh X (b.at a [.code c]) [] w:=
 ⟨⟨⟨h.tmps,fun x hx=>by
  obtain rfl:x=.code c:=by simpa [Frame.at] using hx
  exact .code c (hc.mono h.W.le) hu,h.defers,.inl rfl,hk,fun l hl=>by cases hl⟩,fun _=>rfl⟩,trivial,h.W⟩
theorem append_self{x:List Item}{y:List Item}(h:x++y=y):x=[]:=by
 have:=congrArg List.length h;rw[List.length_append] at this;exact List.length_eq_zero_iff.1 (by omega)
theorem wpT_lone[Lo]{c:Code}{Q0:Exit->Act->World->Prop}(hP:∀Z',Zn.Le Z Z'->Zn.PQK Z' P)(hI:Iv Z Sh X a w)(hc:Zn.CodeP Z c)(hu:Zn.CodeU X c)(h:∀τ p,c.wp P Q0 a (tp w τ p))
 (hQ:∀e a' w' τ p,Q0 e a' (tp w' τ p)->(e=.normal\/e=.ret)/\(Iv Z Sh X a' w'->w.heap.size<=w'.heap.size->Q e a' w' Sh)):wpT P fn c Q a w Sh:=by
 intro b k cs Ψ hb hk hn
 let A:Frame->World->Prop:=fun F w'=>∃a',(F=b.at a' K0/\Q0 .normal a' w')\/(∃todo,F={b.at a' todo with mode:=.returning}/\Q0 .ret a' w')
 have hA:∀F w',A F w'->∀c,F.mode≠.panicking c:=by
  rintro F w' ⟨a',⟨rfl,_⟩|⟨todo,rfl,_⟩⟩ c h
  ·cases h
  ·cases h
 have goe:Zn.Goe P Z Sh X A (b.at a [.code c]) [] w:=by
  refine Zn.lone_goe hA hP (hI.inv hk hc hu) fun τ p=>?_;obtain⟨e,a',w',hq,har⟩:=h τ p b K0 [Zn.c0];rcases(hQ e a' w' w'.tape w'.drawn (by rw[tp_self];exact hq)).1 with rfl|rfl
  ·obtain⟨n,hr⟩:=har;exact⟨n,_,hr,_,_,rfl,a',.inl ⟨rfl,hq⟩⟩
  ·obtain⟨todo,n,hr⟩:=har;exact⟨n,_,hr,_,_,rfl,a',.inr ⟨todo,rfl,hq⟩⟩
 refine To.goe (κ:=k) (cs:=cs) goe fun fr' w' τ p hI' hz⟨a',ha⟩=>?_;have iv:∀todo,(fr'=b.at a' todo\/fr'={b.at a' todo with mode:=.returning})->Iv Z Sh X a' w':=by
  rintro todo (rfl|rfl)
  ·exact⟨hI'.fr.1.tmps,hI'.fr.1.defers,hI'.W⟩
  ·exact⟨hI'.fr.1.tmps,hI'.fr.1.defers,hI'.W⟩
 rcases ha with⟨e,hq⟩|⟨todo,e,hq⟩
 ·obtain⟨f1,f2,f3,f4,f5,f6,f7⟩:=fr';simp only[ext,Frame.at,Frame.mk.injEq] at e;obtain⟨rfl,rfl,e3,rfl,rfl,rfl,rfl⟩:=e;obtain rfl:=append_self e3;have:=hn _ _ _ _ ((hQ _ _ _ _ _ hq).2 (iv [] (.inl rfl)) hz);exact this
 ·obtain⟨f1,f2,f3,f4,f5,f6,f7⟩:=fr';simp only[ext,Frame.at,Frame.mk.injEq] at e;obtain⟨rfl,rfl,e3,rfl,rfl,rfl,rfl⟩:=e;have:=hn _ _ _ _ ((hQ _ _ _ _ _ hq).2 (iv f3 (.inr rfl)) hz) (f3++k);exact this
end
section
open Go.Conc
open Go.ConcR (WgAt stA)
open Go.ConcN (sumTo WD ShN Vc Ssum phi CTag)
open Zn (tp tp_self)
open Mc (Pz a0a Shun Shp a6i a8q Rdp a0A a0r Fin Spawns W0 AtW1 Done)
def at_(Z:Pz)(c:Nat):Pz:={Z with c:=c}
set_option linter.unusedSectionVars false
variable[Go.ConcR.Payload][Lo]{Z:Pz}{Cont AnchW:Goroutine->World->Prop}{g:Goroutine}{w:World}{Sh:Nat->Prop}{Ψ:Goroutine->World->(Nat->Prop)->Prop}{B:Nat}
theorem c2e{l:Loc}{B:Nat}(h:Shp Z l)(hW:B<=Z.Wg)(hA:B<=Z.Al):¬l.low B:=by
 cases l with
 | cell a=>
  intro(hl:a.block<B)
  rcases h with h|h<;>omega
 | _=>exact(h:False).elim
theorem ToB.phase(hc:Z.c=0)(hZ:∀c,0<c->a0a (at_ Z c))(hn:Z.n<2147483648)(hSh:Z.ShB=Tr Sh)(hBL:B<=Z.L0)(hBW:B<=Z.Wg)(hBA:B<=Z.Al)(hsz:Z.L0<=w.heap.size)
 (hal:a0A Z w)(hcb:a0r Z w)(hwg:WgAt Z.ty Z.Wg w 0 0)
 (hAr:∀g w,AnchW g w->g.status=.running)(hAn:∀c,0<c->∀x g w,AnchW g w->∃T,W0 (at_ Z c) (AtW1 (at_ Z c) Cont AnchW) T x g w)
 (hst:∀c τ p,0<c->Spawns (at_ Z c) (Fin (at_ Z c) AnchW) Z.n none g (tp w τ p))
 (hnext:∀(w':World)(g':Goroutine)(O:Nat->Nat->Prop)(bx:Nat->Nat),Cont g' w'->(∀b,Z.Eld b\/Z.ShB b->w'.heap[b]?=w.heap[b]?)->(∀i,i<Z.n->Z.Res i (bx i) (O i) w')->(∀i b,O i b->Z.L0<=b/\b<w'.heap.size)->(∀i k b,O i b->O k b->i=k)->
   a0A Z w'->a0r Z w'->Z.L0<=w'.heap.size->w'.os=w.os->w'.output=w.output->∃Sh':Nat->Prop,(∀b,Sh b->Sh' b)/\Sh' Z.Wg/\To Z.P g' w' Sh' Ψ):ToB Z.P B g w Sh Ψ:=by
 intro τ p gs sl t q h0 hctx;have hpos:0<gs.size:=(Array.getElem?_eq_some_iff.1 h0).1;have hZc:=hZ gs.size hpos;have eS:Shun (at_ Z gs.size)=Shn Sh:=by
  funext l
  cases l with
  | cell a=>exact congrFun hSh a.block
  | obj r=>exact congrFun hSh r
  | _=>rfl
 have hp:Past (Shun (at_ Z gs.size)) B t:=eS▸hctx.past;have hlow:∀op∈t,op.act.low w.heap.size:=fun op hop=>MemAct.low_mono (by omega) (hctx.past.seen op hop);have hcom:Mc.Com (at_ Z gs.size) t (tp w τ p) 0 gs (tp w τ p) t (fun _=>⟨7,0,0⟩) (fun _ _=>False) (fun _=>Z.e0) (fun _=>.leaf) q 0 none:=by
  refine⟨rfl,fun i y hi _ hy=>hctx.L.old i y hi hy,fun i hi=>absurd hi (by omega),⟨hsz,fun _ _ h=>h.elim,fun _ _ _ h=>h.elim,fun _ _ _ h=>h,fun _ _ _ h=>h.elim,fun _ _ h=>h.elim,fun _=>.inl hZc.e0,fun _ h=>by cases h⟩,?_,?_,hctx.past.hears,fun i hi=>absurd hi (by omega),fun i hi=>absurd hi (by omega),fun _ _=>rfl,hal,hcb,hlow,⟨#[],by simp,by simp⟩,rfl,rfl,rfl⟩
  ·refine Mc.CT.init hpos hp (fun l hl=>?_) (fun l hl=>c2e (Z:=at_ Z gs.size) hl hBW hBA) hctx.gsb;unfold a6i at hl
   exact⟨fun h=>hl (.inl h),by cases h:l.isMemory with
    | true=>rfl
    | false=>exact absurd (.inr h) hl⟩
  ·intro i hi;obtain⟨op,hop,ho⟩:=Option.map_eq_some_iff.1 (show(t[i]?).map (·.act)=_ from hi);have:=hctx.past.seen op (Array.mem_of_getElem? hop);rw[ho] at this;have h1:(stA Z.Wg).block<B:=this;have h2:(stA Z.Wg).block=Z.Wg:=rfl;omega
 have fin:∀tag T0,Mc.CS (at_ Z gs.size) Cont AnchW tag 0 T0 0 none g (tp w τ p)->ConcN.Mode 0 (fun _=>(⟨7,0,0⟩:WD)) tag 0 0->
  ∃N gs' w' sl' t' q' Sh' g' τ' p',runNT Z.P N (crowd gs (tp w τ p) sl) t=(.next (crowd gs' (tp w' τ' p') sl'),t')/\gs'[0]?=some g'/\Ctx Z.P Sh' gs' t' q' w'.heap.size/\Ψ g' w' Sh':=by
  intro tag T0 hcs hm;obtain⟨N,m',t',hr,hd⟩:=Mc.phase_runs hZc hp hBL hn hAr (hAn gs.size hpos) _ _ _ ⟨gs,tp w τ p,sl,0,_,_,_,_,q,tag,T0,0,none,g,0,0,rfl,h0,hcs,hcom,hwg,hm,rfl⟩;obtain⟨gs1,w1,sl1,q1,g1,O,bx1,rfl,hs1,hg1,hrun1,hcont,hL1,hp1,he1,hres,hO,hOd,hal1,hcb1,hL0,htape,hos,hout,hgb⟩:=hd;obtain⟨Sh',hS1,hS2,hto⟩:=hnext w1 g1 O bx1 hcont he1 hres hO hOd hal1 hcb1 hL0 hos hout;have hctx1:Ctx Z.P Sh' gs1 t' q1 w1.heap.size:=by
   refine⟨hL1,⟨hp1.clean,fun i a ha hm=>(hp1.known i a ha hm).imp id fun⟨h1,h2⟩=>⟨?_,h2⟩,hp1.over,hp1.hears,hp1.seen⟩,fun i op hi=>by rw[hs1];exact hgb i op hi,Nat.le_trans hctx.lo (Nat.le_trans hBL hL0)⟩;rcases h1 with h1|⟨ad,h1,h3⟩
   ·rw[eS] at h1;revert h1;cases a.loc<;>first|exact fun h=>⟨h.1,hS1 _ h.2⟩|exact id
   ·rw[h1];show Tr Sh' ad.block;rw[h3];exact⟨Nat.le_trans hctx.lo hBW,hS2⟩
  obtain⟨M,gs2,w2,sl2,t2,q2,Sh2,g2,τ2,p2,k1,k2,k3,k4⟩:=hto w1.tape w1.drawn gs1 sl1 t' q1 hg1 hctx1;exact⟨N+M,gs2,w2,sl2,t2,q2,Sh2,g2,τ2,p2,by rw[runNT_add,show runNT Z.P N _ t=_ from hr];rw[tp_self] at k1;exact k1,k2,k3,k4⟩
 have hs:=hst gs.size τ p hpos;have hv:Vc 0 (fun _=>(⟨7,0,0⟩:WD))=0:=rfl
 cases hn':Z.n with
 | zero=>
  rw[hn'] at hs;obtain⟨-,T,hk⟩:=hs;have e0:(at_ Z gs.size).n=0:=hn';have hk':Mc.CS (at_ Z gs.size) Cont AnchW .kd (at_ Z gs.size).n T 0 none g (tp w τ p):=.kd hk;rw[e0] at hk';refine fin .kd T hk' ?_;have:=ConcN.Mode.opn (j:=0) (D:=fun _=>(⟨7,0,0⟩:WD)) (tag:=.kd) trivial (fun i hi=>absurd hi (by omega)) (fun vs e=>by cases e)
  simpa [hv,ConcN.pend] using this
 | succ r=>
  rw[hn'] at hs;obtain⟨T,hk⟩:=hs;have e0:(at_ Z gs.size).n - (r+1)=0:=by
   have:(at_ Z gs.size).n=r+1:=hn';omega
  have hk':Mc.CS (at_ Z gs.size) Cont AnchW (.sp r 5) ((at_ Z gs.size).n - (r+1)) T 0 none g (tp w τ p):=.skd (by have:(at_ Z gs.size).n=r+1:=hn';omega) hk;rw[e0] at hk';refine fin (.sp r 5) T hk' ?_;have:=ConcN.Mode.opn (j:=0) (D:=fun _=>(⟨7,0,0⟩:WD)) (tag:=.sp r 5) trivial (fun i hi=>absurd hi (by omega)) (fun vs e=>by cases e);simpa [hv,ConcN.pend] using this
end
end Go.To
namespace Go.Mw
section
open Go.Conc
open Go.ConcR (DC0)
open Mc
set_option linter.unusedSectionVars false
theorem c2k{γ:Type}{P:Program}{main:Bool}{R:γ->World->World->Prop}{D:γ->γ->World->World->Array Event->Prop}{Stop Stop':γ->Goroutine->World->Prop}(h:∀x g w,Stop x g w->Stop' x g w):
 ∀{T:Tr}{x:γ}{g:Goroutine}{w:World},Wk P main R D Stop T x g w->Wk P main R D Stop' T x g w:=by
 intro T
 induction T with
 | leaf=>exact fun hw w₁ r=>h _ _ _ (hw w₁ r)
 | node f ih=>
  intro x g w hw;rcases hw with hw|⟨hs,hw⟩
  ·exact .inl fun w₁ r=>h _ _ _ (hw w₁ r)
  ·refine .inr ⟨hs,fun w₁ r=>?_⟩;obtain⟨g',w',es,x',h1,h2,h3⟩:=hw w₁ r;exact⟨g',w',es,x',h1,h2,ih _ h3⟩
variable[Go.ConcR.Payload]{Z:Pz}{x:Option Nat}{Cont Cont' AnchW AnchW':Goroutine->World->Prop}{g:Goroutine}{w:World}
theorem Y7{Stop Stop':Option Nat->Goroutine->World->Prop}(h:∀x g w,Stop x g w->Stop' x g w)(k:∃T,W0 Z Stop T x g w):∃T,W0 Z Stop' T x g w:=let ⟨T,k⟩:=k;⟨T,c2k h k⟩
section
variable(hC:∀g w,Cont g w->Cont' g w)
include hC
theorem b4S(h:AtAcq Z Cont x g w):AtAcq Z Cont' x g w:=let ⟨a,g',b,c,d⟩:=h;⟨a,g',b,c,hC _ _ d⟩
theorem b0B(h:AtKe Z Cont x g w):AtKe Z Cont' x g w:=let ⟨a,g',b,c⟩:=h;⟨a,g',b,Y7 (fun _ _ _=>b4S hC) c⟩
theorem b7D(h:AtW4 Z Cont x g w):AtW4 Z Cont' x g w:=let ⟨a,b⟩:=h;⟨a,fun y=>let ⟨g',b,c⟩:=b y;⟨g',b,Y7 (fun _ _ _=>b0B hC) c⟩⟩
theorem b7E(h:AtW3 Z Cont x g w):AtW3 Z Cont' x g w:=let ⟨a,b,c,d⟩:=h;⟨a,b,c,fun y=>let ⟨g',b,c⟩:=d y;⟨g',b,Y7 (fun _ _ _=>b7D hC) c⟩⟩
variable(hA:∀g w,AnchW g w->AnchW' g w)
include hA
theorem b7F{vs:Nat}(h:AtW2 Z Cont AnchW vs x g w):AtW2 Z Cont' AnchW' vs x g w:=by
 obtain⟨a,b⟩:=h;refine⟨a,fun v hv hw=>⟨fun e=>?_,fun e=>?_⟩⟩
 ·obtain⟨g',b,c⟩:=(b v hv hw).1 e;exact⟨g',b,Y7 (fun _ _ _=>b7E hC) c⟩
 ·obtain⟨g',b,c⟩:=(b v hv hw).2 e;exact⟨g',b,Y7 (fun _ _ _=>hA _ _) c⟩
theorem b0C(h:AtW1 Z Cont AnchW x g w):AtW1 Z Cont' AnchW' x g w:=by
 obtain⟨a,b⟩:=h;refine⟨a,fun v hv hw=>?_⟩;obtain⟨g',b,c,d⟩:=b v hv hw;exact⟨g',b,fun e=>Y7 (fun _ _ _=>b0B hC) (c e),fun e=>Y7 (fun _ _ _=>b7F hC hA) (d e)⟩
end
theorem b0D(hA:∀g w,AnchW g w->AnchW' g w)(h:AtKd Z AnchW x g w):AtKd Z AnchW' x g w:=let ⟨a,g',b,c⟩:=h;⟨a,g',b,Y7 (fun _ _ _=>hA _ _) c⟩
open To Zn in
theorem b5Y[To.Lo]{P:Program}{S:Goroutine->World->Prop}{Sh:Nat->Prop}{Ψ:Goroutine->World->(Nat->Prop)->Prop}:∀{n:Nat}{g:Goroutine}{w:World},Goes P true c0x DC0 S n g w->(∀g',(∃τ p,S g' (Zn.tp w τ p))->To P g' w Sh Ψ)->To P g w Sh Ψ
 | 0,g,w,h,k=>k g ⟨w.tape,w.drawn,h w ⟨w.tape,w.drawn,rfl⟩⟩
 | n+1,g,w,h,k=>by
  rcases h with h|⟨hs,h⟩
  ·exact k g ⟨w.tape,w.drawn,h w ⟨w.tape,w.drawn,rfl⟩⟩
  ·refine To.step hs fun τ p=>?_;obtain⟨g',w',es,e,⟨e1,e2⟩,hn⟩:=goes_elim (h (Zn.tp w τ p) ⟨τ,p,rfl⟩);subst e1;subst e2;exact⟨g',_,#[],e,Nat.le_refl _,by simp,(b5Y hn fun g'⟨τ',p',hs'⟩=>(k g' ⟨τ',p',hs'⟩).to_tp)⟩
open To in
theorem c2l[To.Lo]{P:Program}{tgt:Goroutine}{Sh:Nat->Prop}{Ψ:Goroutine->World->(Nat->Prop)->Prop}(h:b3f P tgt g w)(k:To P tgt w Sh Ψ):To P g w Sh Ψ:=b5Y h fun g'⟨_,_,e⟩=>e▸k
end
end Go.Mw
namespace Go.Proofs.YtgpbhjjajpbeeaaGreatDoor
section
open Go.RowKit Go.Conc Go.Conc.Lib Go.ConcR.Gen Go.ConcN.Gen Go.Mw
open Go.ConcN (WgLive)
open Go.Mc (Pz a0a R0 D0 W0 Ev0 AtKdS AtGoS AtKd AtW1 Spawns Fin a0A a0r Works)
set_option linter.unusedSectionVars false
variable[Go.ConcR.Payload]{Z:Pz}{w00:World}{T0:Array Value}{V4 V6 V11:Value}{K:List Item}{cs:List Frame}
def kb(k:Nat):Bool:=![12,13,14,70,71,72,73,74,75,76,77,78].contains k
theorem a3R{T T0:Array Value}(h:∀k,kb k=true->T[k]?=T0[k]?)(j:Nat)(hj:kb j=false)(v:Value):∀k,kb k=true->(T.setIfInBounds j v)[k]?=T0[k]?:=fun k hk=>by
 have hne:j≠k:=fun e=>by subst e;rw[hj] at hk;cases hk
 rw[Array.getElem?_setIfInBounds_ne hne];exact h k hk
structure Lay(Z:Pz)(T0:Array Value)(V4 V6 V11:Value)(T:Array Value)(j:Nat):Prop where
 size:T.size=118
 t4:T[4]?=some V4
 t6:T[6]?=some V6
 t11:T[11]?=some V11
 t12:T[12]?=some (.pointer (some ⟨Z.Al,0,none⟩))
 t13:T[13]?=some (.pointer (some ⟨Z.Wg,0,none⟩))
 t71:T[71]?=some (.int .i64 Z.n)
 t72:T[72]?=some (.int .i64 j)
 keep:∀k,kb k=true->T[k]?=T0[k]?
noncomputable def c3C(T:Array Value)(K:List Item):Frame:=(base 14).at ⟨T,[]⟩ (.inRegion a8v [0]::.code (I5 10)::K)
noncomputable def joined(T:Array Value)(K:List Item):Frame:=(base 14).at (Act.put ⟨T,[]⟩ (some 78) (.tuple #[])) (.inRegion a8v []::.code (I5 10)::K)
def a5x(Z:Pz)(w00:World)(T0:Array Value)(V4 V6 V11:Value)(K:List Item)(cs:List Frame)(g:Goroutine)(w:World):Prop:=∃T,Lay Z T0 V4 V6 V11 T Z.n/\b3g Z link w00 (c3C T K) cs g w
def b5z(Z:Pz)(T0:Array Value)(V4 V6 V11:Value)(K:List Item)(cs:List Frame)(g:Goroutine)(w:World):Prop:=∃T,Lay Z T0 V4 V6 V11 T Z.n/\b3f Tryz.prog (G (joined T K) cs) g w
theorem b6Z(g:Goroutine)(w:World)(h:a5x Z w00 T0 V4 V6 V11 K cs g w):g.status=.running:=by
 obtain⟨T,_,T',rfl,_⟩:=h;rfl
theorem b60(hZ:a0a Z)(hP:Z.P=Tryz.prog)(hty:Z.ty=149){x:Option Nat}(g:Goroutine)(w:World)(h:a5x Z w00 T0 V4 V6 V11 K cs g w):∃T,W0 Z (AtW1 Z (b5z Z T0 V4 V6 V11 K cs) (a5x Z w00 T0 V4 V6 V11 K cs)) T x g w:=by
 obtain⟨T,hT,h⟩:=h;refine Y7 (fun y g w=>b0C (fun g w hc=>⟨T,hT,?_⟩) fun g w ha=>⟨T,hT,ha⟩) (b4Q (L:=link) (b₀:=base 14) (a₀:=⟨T,[]⟩) (ops₀:=a8v) (i₀:=0) (rest₀:=[]) (k₀:=.code (I5 10)::K) hZ (hP▸wgLib) hty g w h);rw[hP] at hc;exact hc
def b1k(Z:Pz)(V4 V6 V11:Value)(b:Nat):Array Value:=#[.pointer (some ⟨Z.Wg,0,none⟩),.pointer (some ⟨b,0,none⟩),V6,V4,V11,.pointer (some ⟨Z.Al,0,none⟩)]
def b5A(Z:Pz)(V4 V6 V11:Value)(b:Nat):Deferred:={target:=.fn (.func 59) (b1k Z V4 V6 V11 b),args:=#[]}
variable{ρ:Operand->Value}{n j:Nat}
theorem Lay.set{T:Array Value}(h:Lay Z T0 V4 V6 V11 T j)(k:Nat)(v:Value)(hk:([4,6,11,12,13,71,72].contains k||kb k)=false):Lay Z T0 V4 V6 V11 (T.setIfInBounds k v) j:=by
 rw[Bool.or_eq_false_iff] at hk;obtain⟨hk,hkb⟩:=hk;simp at hk;obtain⟨h1,h2,h3,h4,h5,h6,h7⟩:=hk;refine⟨by simp[h.size],C9 h.t4 h1,C9 h.t6 h2,C9 h.t11 h3,C9 h.t12 h4,C9 h.t13 h5,C9 h.t71 h6,C9 h.t72 h7,fun i hi=>?_⟩;have hne:k≠i:=fun e=>by subst e;rw[hkb] at hi;cases hi
 rw[Array.getElem?_setIfInBounds_ne hne];exact h.keep i hi
theorem Lay.next{T:Array Value}(h:Lay Z T0 V4 V6 V11 T j)(j':Nat):Lay Z T0 V4 V6 V11 (T.setIfInBounds 72 (.int .i64 j')) j':=by
 refine⟨by simp[h.size],C9 h.t4 (by decide),C9 h.t6 (by decide),C9 h.t11 (by decide),C9 h.t12 (by decide),C9 h.t13 (by decide),C9 h.t71 (by decide),a0m (by rw[h.size];decide),fun i hi=>?_⟩;have hne:72≠i:=fun e=>by subst e;revert hi;decide
 rw[Array.getElem?_setIfInBounds_ne hne];exact h.keep i hi
section
variable{a b:Operand}(u v:Int)(ha:ρ a=.int .i64 u)(hb:ρ b=.int .i64 v)
include ha hb
theorem c1H(w:World)(d:Option Nat)(ps:String)(af:Array Edge)(t:TypeId):(execOp ρ {dst:=d,op:=.binOp .lss 3 a b 3,type:=t,pos:=ps,after:=af,guard:=none}).run Tryz.prog w=.ok (.value (.bool (decide (u<v)))) w:=by
 simp[go_sem,ha,hb]
end
theorem c3E{a b:Operand}{u v:Int}(ha:ρ a=.int .i64 u)(hb:ρ b=.int .i64 v)(w:World)(d:Option Nat)(ps:String)(af:Array Edge)(t:TypeId):(execOp ρ {dst:=d,op:=.binOp .lss 3 a b 3,type:=t,pos:=ps,after:=af,guard:=none}).events Tryz.prog w #[]=#[]:=by
 simp[go_sem,ha,hb]
theorem c1I{T:Array Value}{u:Nat}(h:T[72]?=some (.int .i64 u))(hu:u<4611686018427387904)(w:World):(execOp (Act.eval ⟨T,[]⟩) {dst:=some 77,op:=.binOp .add 3 (.tmp 72) (.const (.int .i64 1)) 3,type:=3,pos:= "keydir.go:117",after:=#[],guard:=none}).run Tryz.prog w=.ok (.value (.int .i64 ((u+1:Nat):Int))) w/\
 (execOp (Act.eval ⟨T,[]⟩) {dst:=some 77,op:=.binOp .add 3 (.tmp 72) (.const (.int .i64 1)) 3,type:=3,pos:= "keydir.go:117",after:=#[],guard:=none}).events Tryz.prog w #[]=#[]:=by
 have h1:=J7 (ds:=[]) h;have h2:Act.eval ⟨T,[]⟩ (.const (.int .i64 1))=.int .i64 1:=rfl;have h3:IntKind.i64.wrap ((u:Int)+1)=(u:Int)+1:=by rw[IntKind.wrap_i64];omega
 generalize Act.eval ⟨T,[]⟩ = ρ at h1 h2⊢;constructor
 ·show _=Result.ok (Next.value (Value.int .i64 ((u:Int)+1))) w;simp[go_sem,h1,h2,h3]
 ·simp[go_sem,h1,h2]
section
variable{T:Array Value}{w:World}{x:Option Nat}{Stop:Option Nat->Goroutine->World->Prop}{k:List Item}
theorem b5B(hP:Z.P=Tryz.prog)(hT:Lay Z T0 V4 V6 V11 T j)
 (h:∃Tr,W0 Z Stop Tr x (G ((base 14).at ⟨T.setIfInBounds 73 (.bool (decide ((j:Int)<Z.n))),[]⟩ (.code (if decide ((j:Int)<Z.n) then .skip else .exit 2)::.code (.seq (.block 3 a5w) (.region 23 #[{dst:=some 77,op:=.binOp .add 3 (.tmp 72) (.const (.int .i64 1)) 3,type:=3,pos:= "keydir.go:117",after:=#[],guard:=none},{dst:=some 72,op:=.move (.tmp 77),type:=3,pos:= "keydir.go:117",after:=#[{on:=0,ground:=.data}],guard:=none}] false))::k)) cs) w):
 ∃Tr,W0 Z Stop Tr x (G ((base 14).at ⟨T,[]⟩ (.code Y8::k)) cs) w:=by
 rw[round_eq];refine J9 rfl (fun _=>stepG_seq) (J9 rfl (fun _=>stepG_region) ?_);refine a2i (i:=0) (rest:=[]) rfl rfl (by decide) (v:=.bool (decide ((j:Int)<Z.n))) (fun w=>hP▸c1H j Z.n (J7 hT.t72) (J7 hT.t71) w _ _ _ _) (fun w=>hP▸c3E (J7 hT.t72) (J7 hT.t71) w _ _ _ _) ?_;refine J9 rfl (fun _=>stepG_region_end) (J9 rfl (fun _=>stepG_seq) (J9 rfl (fun _=>stepG_cond (t:=decide ((j:Int)<Z.n)) (J7 (a0m (by rw[hT.size];decide)))) h))
end
theorem b61(hP:Z.P=Tryz.prog)(hty:Z.ty=149){T:Array Value}{w:World}(hT:Lay Z T0 V4 V6 V11 T Z.n)(hF:Kn Z none w00 w):
 ∃Tr,W0 Z (AtKd Z (a5x Z w00 T0 V4 V6 V11 K cs)) Tr none (G ((base 14).at ⟨T,[]⟩ (.code Y8::.inLoop Y8::.inBlock 2::.code (I5 9)::K)) cs) w:=by
 refine b5B hP hT ?_;have q1:decide ((Z.n:Int)<(Z.n:Int))=false:=by simp
 rw[q1];have hT1:=hT.set 73 (.bool false) (by decide);refine J9 rfl (fun _=>stepG_exit (k':=.code (I5 9)::K) (by rfl)) ?_;rw[c3B];refine J9 rfl (fun _=>stepG_seq) (J9 rfl (fun _=>stepG_region) ?_);have start:=fun a₀=>b4R (Z:=Z) (L:=link) (b₀:=base 14) (a₀:=a₀) (ops₀:=a8v) (i₀:=0) (rest₀:=[]) (k₀:=.code (I5 10)::K) (cs:=cs) (hP▸wgLib) hty hF;have e24:List.range a8v.size=[0]:=by rw[b2G];rfl
 rw[e24];refine b5X (o:=_) (by rw[b2G];rfl) (by rfl) (by decide) rfl (by rw[hP];exact Tryz.func63) (by kernel_rfl) rfl ?_;have ea:#[Operand.tmp 13].map (Act.eval ⟨T.setIfInBounds 73 (.bool false),[]⟩)=#[.pointer (some ⟨Z.Wg,0,none⟩)]:=by
  simp only[List.map_toArray,List.map_cons,List.map_nil];rw[J7 hT1.t13]
 rw[ea];exact Y7 (fun y g w=>b0D fun g w h=>⟨_,hT1,h⟩) (start ⟨_,[]⟩)
theorem b9u:(Tryz.prog.funcs[(base 14).fn]?).any (·.norace)=false:=by kernel_rfl
section
variable{T:Array Value}{w:World}
abbrev c3F:Oper:={dst:=some 14,op:=.alloc 3,type:=0,pos:= "keydir.go:117",after:=#[],guard:=none}
theorem c1J(ρ:Operand->Value)(w:World):(execOp ρ {dst:=some 14,op:=.alloc 3,type:=0,pos:= "keydir.go:117",after:=#[],guard:=none}).run Tryz.prog w=.ok (.value (.pointer (some ⟨w.heap.size,0,none⟩))) (w.alloc (.cells #[.int .i64 0] 3))/\
 (execOp ρ {dst:=some 14,op:=.alloc 3,type:=0,pos:= "keydir.go:117",after:=#[],guard:=none}).events Tryz.prog w #[]=#[]:=by
 constructor<;>simp[go_sem]
abbrev b9v:Oper:={dst:=none,op:=.store 3 (.tmp 14) (.tmp 74),type:=0,pos:= "keydir.go:117",after:=#[{on:=1,ground:=.data},{on:=0,ground:=.data},{on:=0,ground:=.phase},{on:=1,ground:=.phase}],guard:=none}
theorem b9w{ρ:Operand->Value}{b:Nat}{v:Int}(h1:ρ (.tmp 14)=.pointer (some ⟨b,0,none⟩))(h2:ρ (.tmp 74)=.int .i64 v){w:World}(hc:w.heap[b]?=some (.cells #[.int .i64 0] 3)):
 (execOp ρ b9v).run Tryz.prog w=.ok .skip (w.setCell ⟨b,0,none⟩ (.int .i64 v))/\(execOp ρ b9v).events Tryz.prog w #[]=#[⟨.cell ⟨b,0,none⟩,true,false⟩]:=by
 have hz:w.frozen? ⟨b,0,none⟩=false:=by simp[World.frozen?,hc]
 have hx:w.cell? ⟨b,0,none⟩=some (.int .i64 0):=by simp[World.cell?,hc]
 constructor
 ·unfold execOp;simp only[h1,h2];simp[go_sem,stored,hx,hz]
 ·unfold execOp;simp only[h1,h2];simp[go_sem,storedEv,hx,hz]
theorem heap_set(w:World)(b:Nat)(v u:Value)(t:TypeId)(h:w.heap[b]?=some (.cells #[u] t)):(w.setCell ⟨b,0,none⟩ v).heap[b]?=some (.cells #[v] t):=by
 simp[World.setCell,Array.getElem?_modify,h]
end
abbrev c4S:Oper:={dst:=some 74,op:=.move (.tmp 72),type:=3,pos:= "keydir.go:117",after:=#[],guard:=none}
abbrev b9x:Oper:={dst:=some 76,op:=.makeFunc (.func 59) #[] #[.tmp 13,.tmp 14,.tmp 6,.tmp 4,.tmp 11,.tmp 12],type:=1,pos:= "keydir.go:119",after:=#[],guard:=none}
abbrev b9y:Oper:={dst:=none,op:=.go {callee:=.value (.tmp 76),args:=#[],argTypes:=#[]},type:=0,pos:= "keydir.go:119",after:=#[{on:=0,ground:=.data}],guard:=none}
theorem run_go{ρ:Operand->Value}{f:Fn}{c:Array Value}(h:ρ (.tmp 76)=.func f #[] c)(w:World):(execOp ρ b9y).run Tryz.prog w=.ok (.spawn {target:=.fn f c,args:=#[]}) w/\(execOp ρ b9y).events Tryz.prog w #[]=#[]:=by
 constructor<;>(unfold execOp;simp[go_sem,Deferred.ofValue];rw[h];rfl)
abbrev c4T:Array Oper:=#[{dst:=some 77,op:=.binOp .add 3 (.tmp 72) (.const (.int .i64 1)) 3,type:=3,pos:= "keydir.go:117",after:=#[],guard:=none},{dst:=some 72,op:=.move (.tmp 77),type:=3,pos:= "keydir.go:117",after:=#[{on:=0,ground:=.data}],guard:=none}]
theorem a4n(w:World)(o:Obj):(w.alloc o).heap.size=w.heap.size+1:=Array.size_push ..
theorem a6l(w:World)(o:Obj){b:Nat}(h:b<w.heap.size):(w.alloc o).heap[b]?=w.heap[b]?:=by
 show(w.heap.push o)[b]?=_;rw[Array.getElem?_push_lt h,<-Array.getElem?_eq_getElem]
theorem b4a(w:World)(o:Obj):(w.alloc o).heap[w.heap.size]?=some o:=Array.getElem?_push_size
theorem a6R{AnchW:Goroutine->World->Prop}{r:Nat}{g g':Goroutine}{w:World}(h:∀Stop,(∃T,W0 Z Stop T none g' w)->∃T,W0 Z Stop T none g w)(k:Spawns Z (Fin Z AnchW) r none g' w):Spawns Z (Fin Z AnchW) r none g w:=by
 cases r with
 | zero=>exact⟨rfl,h _ k.2⟩
 | succ r=>exact h _ k
theorem b62(hZ:a0a Z)(hP:Z.P=Tryz.prog)(hty:Z.ty=149)(hn:Z.n<2147483648)(hL:Z.L0<=w00.heap.size)
 (hworks:∀i b w,i<Z.n->Z.L0<=b->R0 Z none w00 w->w.heap[b]?=some (.cells #[.int .i64 i] 3)->a0A Z w->a0r Z w->WgLive Z.ty Z.Wg w->Works Z i b (born Tryz.prog (b5A Z V4 V6 V11 b)) w)(r:Nat):
 ∀j T w,j+r=Z.n->Lay Z T0 V4 V6 V11 T j->Kn Z none w00 w->Spawns Z (Fin Z (a5x Z w00 T0 V4 V6 V11 K cs)) r none (G ((base 14).at ⟨T,[]⟩ (.code Y8::.inLoop Y8::.inBlock 2::.code (I5 9)::K)) cs) w:=by
 induction r with
 | zero=>
  intro j T w hj hT hF;obtain rfl:j=Z.n:=by omega
  exact⟨rfl,b61 hP hty hT hF⟩
 | succ r ih=>
  intro j T w hj hT hF;have ej:Z.n - (r+1)=j:=by omega
  have hjn:j<Z.n:=by omega
  show ∃Tr,W0 Z (AtKdS Z (Z.n - (r+1)) (Spawns Z (Fin Z (a5x Z w00 T0 V4 V6 V11 K cs)) r)) Tr none _ w;rw[ej];refine b5B hP hT ?_;have q1:decide ((j:Int)<(Z.n:Int))=true:=by simp;omega
  rw[q1];have hT1:=hT.set 73 (.bool true) (by decide);generalize T.setIfInBounds 73 (.bool true)=T1 at hT1⊢;rw[if_pos rfl,show Item.code (.seq (.block 3 a5w) _)=Item.code (.seq (.block 3 _) _) from congrArg (fun c=>Item.code (.seq (.block 3 c) _)) c1G];refine J9 rfl (fun _=>stepG_skip) (J9 rfl (fun _=>stepG_seq) (J9 rfl (fun _=>stepG_block) (J9 rfl (fun _=>stepG_seq) (J9 rfl (fun _=>stepG_region) ?_))));refine a2i (i:=0) (rest:=[1,2]) (o:=c4S) rfl rfl (by decide) (v:=.int .i64 j) (fun w=>by rw[<-J7 (ds:=[]) hT1.t72];rfl) (fun w=>rfl) ?_;have hT2:=hT1.set 74 (.int .i64 j) (by decide);have t74:(T1.setIfInBounds 74 (.int .i64 j))[74]?=some (.int .i64 j):=a0m (by rw[hT1.size];decide);have eT:Act.put ⟨T1,[]⟩ (some 74) (.int .i64 j)=⟨T1.setIfInBounds 74 (.int .i64 j),[]⟩:=rfl;rw[show c4S.dst=some 74 from rfl,eT];clear eT;generalize T1.setIfInBounds 74 (.int .i64 j)=T2 at hT2 t74⊢;refine c0y (i:=1) (rest:=[2]) (o:=c3F) rfl rfl (by decide) fun w₁ h₁=>?_;replace hF:=hF.rely h₁;clear h₁;rw[hP];have hrb:=c1J (Act.eval ⟨T2,[]⟩) w₁;have hb:Z.L0<=w₁.heap.size:=Nat.le_trans hL hF.1.size;refine⟨_,_,some w₁.heap.size,hrb.1,⟨by rw[a4n];omega,rfl,rfl,rfl,fun b hb _=>a6l _ _ hb,.inr (.inr ⟨_,rfl,Nat.le_refl _,by rw[a4n];omega⟩),by rw[show listed Tryz.prog (base 14).fn ⟨T2,[]⟩ c3F w₁=#[] by unfold listed;rw[hrb.2];exact seen_none _ _];simp⟩,?_⟩;clear hrb;have hnew:=b4a w₁ (.cells #[.int .i64 0] 3);have hF2:R0 Z none w00 (w₁.alloc (.cells #[.int .i64 0] 3))/\WgLive Z.ty Z.Wg (w₁.alloc (.cells #[.int .i64 0] 3)):=by
   have hW:Z.Wg<w₁.heap.size:=Nat.lt_of_lt_of_le hZ.W0 hb;have hl:WgLive Z.ty Z.Wg (w₁.alloc (.cells #[.int .i64 0] 3)):=let ⟨st,sm,h⟩:=hF.2;⟨st,sm,(a6l _ _ hW).trans h⟩;exact⟨⟨by rw[a4n];have:=hF.1.size;omega,fun b' hb'=>(a6l _ _ (Nat.lt_of_lt_of_le (hZ.eld b' hb').1 hb)).trans (hF.1.eld b' hb'),fun _ h=>(by cases h),fun _=>hl,fun b' hb'=>(a6l _ _ (Nat.lt_of_lt_of_le (hZ.sh b' hb').1 hb)).trans (hF.1.shb b' hb')⟩,hl⟩
  have hbs:w₁.heap.size<(w₁.alloc (.cells #[.int .i64 0] 3)).heap.size:=by rw[a4n];omega
  generalize w₁.alloc (.cells #[.int .i64 0] 3)=w₂ at hnew hF2 hbs⊢;generalize w₁.heap.size=b at hb hnew hbs⊢;clear hF;have hT3:=hT2.set 14 (.pointer (some ⟨b,0,none⟩)) (by decide);have t74':(T2.setIfInBounds 14 (.pointer (some ⟨b,0,none⟩)))[74]?=some (.int .i64 j):=C9 t74 (by decide);have t14:(T2.setIfInBounds 14 (.pointer (some ⟨b,0,none⟩)))[14]?=some (.pointer (some ⟨b,0,none⟩)):=a0m (by rw[hT2.size];decide);have eT:Act.put ⟨T2,[]⟩ c3F.dst (.pointer (some ⟨b,0,none⟩))=⟨T2.setIfInBounds 14 (.pointer (some ⟨b,0,none⟩)),[]⟩:=rfl;rw[eT];clear eT;generalize T2.setIfInBounds 14 (.pointer (some ⟨b,0,none⟩))=T3 at hT3 t74' t14⊢;refine c2i (i:=2) (rest:=[]) (o:=b9v) rfl rfl (by decide) fun w₃ h₃=>?_;rw[hP];have hc3:w₃.heap[b]?=some (.cells #[.int .i64 0] 3):=(h₃.cur b rfl).trans hnew;obtain⟨hr1,hr2⟩:=b9w (J7 (ds:=[]) t14) (J7 (ds:=[]) t74') hc3;have hne:b≠Z.Wg:=by have:=hZ.W0;omega
  have hF3:R0 Z none w00 w₃:=R0.trans Z hF2.1 ⟨h₃.size,h₃.eld,fun _ h=>(by cases h),h₃.live,h₃.shb⟩;have hlv:WgLive Z.ty Z.Wg w₃:=h₃.live hF2.2;have hset:∀b',b'≠b->(w₃.setCell ⟨b,0,none⟩ (.int .i64 j)).heap[b']?=w₃.heap[b']?:=fun b' hb'=>Below.heap_setCell _ _ _ _ hb';have hsz:(w₃.setCell ⟨b,0,none⟩ (.int .i64 j)).heap.size=w₃.heap.size:=(aside_setCell w₃ ⟨b,0,none⟩ _).size;refine⟨_,some b,hr1,⟨Nat.le_of_eq hsz.symm,rfl,rfl,rfl,fun b' _ hb'=>hset b' fun e=>hb' (e▸rfl),.inl rfl,?_⟩,?_⟩
  ·rw[show listed Tryz.prog (base 14).fn ⟨T3,[]⟩ b9v w₃=#[⟨.cell ⟨b,0,none⟩,true,false⟩] by unfold listed;rw[hr2,seen_eq b9u (by simp)]];intro e he;rw[Array.mem_singleton] at he;subst he;exact⟨by rw[hsz];have:=h₃.size;exact Nat.lt_of_lt_of_le hbs this,rfl,.inr rfl⟩
  have hl4:WgLive Z.ty Z.Wg (w₃.setCell ⟨b,0,none⟩ (.int .i64 j)):=let ⟨st,sm,h⟩:=hlv;⟨st,sm,(hset _ (Ne.symm hne)).trans h⟩;have hF4:R0 Z none w00 (w₃.setCell ⟨b,0,none⟩ (.int .i64 j)):=⟨by rw[hsz];exact hF3.size,fun b' hb'=>(hset b' (by have:=(hZ.eld b' hb').1;omega)).trans (hF3.eld b' hb'),fun _ h=>(by cases h),fun _=>hl4,fun b' hb'=>(hset b' (by have:=(hZ.sh b' hb').1;omega)).trans (hF3.shb b' hb')⟩;have hc4:(w₃.setCell ⟨b,0,none⟩ (.int .i64 j)).heap[b]?=some (.cells #[.int .i64 j] 3):=heap_set w₃ b _ _ 3 hc3;generalize w₃.setCell ⟨b,0,none⟩ (.int .i64 j)=w₄ at hl4 hF4 hc4⊢;clear hsz hset hlv hF3 hr1 hr2 hc3 h₃ hF2 hnew hbs;have eT:Act.put ⟨T3,[]⟩ b9v.dst undef=⟨T3,[]⟩:=rfl;rw[eT];clear eT;refine J9 rfl (fun _=>stepG_region_end) (J9 rfl (fun _=>stepG_seq) (J9 rfl (fun _=>stepG_region) ?_));refine b5X (i:=0) (rest:=[]) rfl rfl (by decide) rfl (by rw[hP];exact Tryz.func58) (by kernel_rfl) rfl ?_;have ea:#[Operand.tmp 13,.const (.int .i64 1)].map (Act.eval ⟨T3,[]⟩)=#[.pointer (some ⟨Z.Wg,0,none⟩),.int .i64 1]:=by
   simp only[List.map_toArray,List.map_cons,List.map_nil];rw[J7 hT3.t13];rfl
  rw[ea];refine a0X (L:=link) (j:=j) (w0:=w₄) hZ (hP▸wgLib) hty (fun e=>hne (Option.some.inj e)) (fun w₅ h₅=>?_) w₄ ⟨R0.refl Z _ _,hl4⟩;have hF5:R0 Z none w00 w₅:=R0.trans Z hF4 ⟨h₅.1.size,h₅.1.eld,fun _ h=>(by cases h),h₅.1.live,h₅.1.shb⟩;have hc5:w₅.heap[b]?=some (.cells #[.int .i64 j] 3):=(h₅.1.cur b rfl).trans hc4;have hl5:=h₅.2;clear h₅ hF4 hc4 hl4;have eT:Act.put ⟨T3,[]⟩ ((#[({dst:=some 75,op:=.call {callee:=.value (.func 58),args:=#[.tmp 13,.const (.int .i64 1)],argTypes:=#[149,3]},type:=0,pos:= "keydir.go:118",after:=#[],guard:=none}:Oper)][0]?).bind (·.dst)) (.tuple #[])=⟨T3.setIfInBounds 75 (.tuple #[]),[]⟩:=rfl;rw[eT];clear eT;have hT4:=hT3.set 75 (.tuple #[]) (by decide);have t14':(T3.setIfInBounds 75 (.tuple #[]))[14]?=some (.pointer (some ⟨b,0,none⟩)):=C9 t14 (by decide);generalize T3.setIfInBounds 75 (.tuple #[])=T4 at hT4 t14'⊢;refine J9 rfl (fun _=>stepG_region_end) (J9 rfl (fun _=>stepG_region) ?_);have hv:∀w,(execOp (Act.eval ⟨T4,[]⟩) b9x).run Tryz.prog w=.ok (.value (.func (.func 59) #[] (b1k Z V4 V6 V11 b))) w/\(execOp (Act.eval ⟨T4,[]⟩) b9x).events Tryz.prog w #[]=#[]:=fun w=>by
   have e1:#[Operand.tmp 13,.tmp 14,.tmp 6,.tmp 4,.tmp 11,.tmp 12].map (Act.eval ⟨T4,[]⟩)=b1k Z V4 V6 V11 b:=by
    simp only[List.map_toArray,List.map_cons,List.map_nil];rw[J7 hT4.t13,J7 t14',J7 hT4.t6,J7 hT4.t4,J7 hT4.t11,J7 hT4.t12];rfl
   rw[<-e1];constructor<;>simp[go_sem]
  refine a2i (i:=0) (rest:=[1]) (o:=b9x) rfl rfl (by decide) (fun w=>hP▸(hv w).1) (fun w=>hP▸(hv w).2) ?_;have eT:Act.put ⟨T4,[]⟩ b9x.dst (.func (.func 59) #[] (b1k Z V4 V6 V11 b))=⟨T4.setIfInBounds 76 (.func (.func 59) #[] (b1k Z V4 V6 V11 b)),[]⟩:=rfl;rw[eT];clear eT;have hT5:=hT4.set 76 (.func (.func 59) #[] (b1k Z V4 V6 V11 b)) (by decide);have t76:(T4.setIfInBounds 76 (.func (.func 59) #[] (b1k Z V4 V6 V11 b)))[76]?=some (.func (.func 59) #[] (b1k Z V4 V6 V11 b)):=a0m (by rw[hT4.size];decide);generalize T4.setIfInBounds 76 (.func (.func 59) #[] (b1k Z V4 V6 V11 b))=T5 at hT5 t76⊢;refine c2j fun w₆ h₆=>?_;have hr:=run_go (J7 (ds:=[]) t76) w₆;have hF6:R0 Z none w00 w₆:=R0.trans Z hF5 ⟨h₆.size,h₆.eld,fun _ h=>(by cases h),h₆.live,h₆.shb⟩;have hst:=stepG_spawn (P:=Tryz.prog) (main:=true) (b:=base 14) (a:=⟨T5,[]⟩) (k:=.inBlock 3::.code (.region 23 c4T false)::.inLoop Y8::.inBlock 2::.code (I5 9)::K) (cs:=cs) (ops:=#[b9x,b9y]) (i:=1) (rest:=[]) (o:=b9y) rfl rfl (by decide) hr.1 rfl;rw[show listed Tryz.prog (base 14).fn ⟨T5,[]⟩ b9y w₆=#[] by unfold listed;rw[hr.2];exact seen_none _ _] at hst;refine⟨rfl,b,_,_,rfl,(by rw[hP];exact hst),rfl,fun hal hcb hlv=>hworks j b w₆ hjn hb hF6 ((h₆.cur b rfl).trans hc5) hal hcb hlv,?_⟩;have hl6:WgLive Z.ty Z.Wg w₆:=h₆.live hl5;have hi:=c1I (T:=T5) hT5.t72 (by omega);have hT6:=hT5.set 77 (.int .i64 ((j+1:Nat):Int)) (by decide);have t77:(T5.setIfInBounds 77 (.int .i64 ((j+1:Nat):Int)))[77]?=some (.int .i64 ((j+1:Nat):Int)):=a0m (by rw[hT5.size];decide);refine a6R (g':=G ((base 14).at ⟨(T5.setIfInBounds 77 (.int .i64 ((j+1:Nat):Int))).setIfInBounds 72 (.int .i64 ((j+1:Nat):Int)),[]⟩ (.code Y8::.inLoop Y8::.inBlock 2::.code (I5 9)::K)) cs) (fun Stop hk=>?_) (ih (j+1) _ w₆ (by omega) (hT6.next (j+1)) ⟨hF6,hl6⟩);refine J9 rfl (fun _=>stepG_region_end) (J9 rfl (fun _=>stepG_inBlock) (J9 rfl (fun _=>stepG_region) ?_));refine a2i (i:=0) (rest:=[1]) rfl rfl (by decide) (fun w=>hP▸(hi w).1) (fun w=>hP▸(hi w).2) ?_;refine a2i (i:=1) (rest:=[]) (v:=.int .i64 ((j+1:Nat):Int)) rfl rfl (by decide) (fun w=>?_) (fun w=>rfl) ?_
  ·exact congrArg (fun v=>(Result.ok (Next.value v) w:Result Next)) (J7 (ds:=[]) t77)
  ·exact J9 rfl (fun _=>stepG_region_end) (J9 rfl (fun _=>stepG_inLoop) hk)
end
section
open Go.RowKit Go.Conc Go.Conc.Lib
noncomputable def bot:Frame:={(default:Frame) with fn:=Tryz.prog.funcs.size,defers:=[],mode:=.panicking [goexitEntry]}
theorem born_step(c:Array Value)(w:World):stepG Tryz.prog false (born Tryz.prog {target:=.fn (.func 59) c,args:=#[]}) w =
 .go (G ((baseD 59).at ⟨c++Array.replicate (29 - c.size) undef,[]⟩ [.code (a1G 0)]) [bot]) w #[]:=by
 simp[born,stepG,unwind,callDeferred,invoke,callFunc,Tryz.func59,Tryz.f59,seen,GStep.after,G,Frame.enter,Frame.at,baseD,bot,a1G,Code.behind];exact seen_none _ _
theorem quits_tail(T:Array Value):QuitsD Tryz.prog 2 0 (G {(baseD 59).at ⟨T,[]⟩ [] with mode:=.returning} [bot]):=by
 refine QuitsD.ctl (g':=G bot []) rfl (fun w=>?_) ?_
 ·simp[G,stepG,unwind,doReturn,results,Frame.at,baseD,bot,Tryz.func59,Tryz.f59,seen,GStep.after,goexitEntry];exact seen_none _ _
 refine QuitsD.ctl (g':={G bot [] with status:=.finished}) rfl (fun w=>?_) ⟨rfl,rfl⟩;simp[G,stepG,unwind,bot,goexitEntry,Frame.catches];rfl
end
end Go.Proofs.YtgpbhjjajpbeeaaGreatDoor
namespace Go.Bi
section
variable{S:Sit}{P:Program}
structure POK(S:Sit)(P:Program):Prop where
 inj:∀a b,S.D a->S.D b->S.ren a=S.ren b->a=b
def ZOK(S:Sit)(P:Program)(t:TypeId):Prop:=∀i z,P.info? t=some i->i.zero=some z->VR S z z
theorem b5m{a:Addr}(h:S.D a.block):Im S P (VR S) (load a) (load (rA S a)):=⟨rfl,rfl,h,rfl,fun _ _ hv=>hv⟩
theorem b8j{a:Addr}(h:S.D a.block){v v':Value}(hv:VR S v v'):Im S P (fun _ _=>True) (store a v) (store (rA S a) v'):=⟨rfl,rfl,h,rfl,hv,trivial⟩
theorem a9W{o o':Obj}(h:a7v S o o'):Im S P (fun r r'=>S.D r/\r'=S.ren r) (newObj o) (newObj o'):=⟨h,fun _ hr=>⟨hr,rfl⟩⟩
theorem a3J{r:Nat}(h:S.D r):Im S P (fun a b=>b=a) (shape r) (shape (S.ren r)):=.inr ⟨h,rfl,fun _=>rfl⟩
theorem a2H(q:Question):Im S P (fun a b=>b=a) (choose q) (choose q):=⟨rfl,fun _=>rfl⟩
theorem Y4:Im S P (fun a b=>a=P/\b=P) program program:=⟨rfl,rfl⟩
theorem b5n{m:Mark}(h:MarkOK m):Im S P (fun _ _=>True) (mark m) (mark m):=⟨rfl,h,trivial⟩
theorem A7{α β:Type}{R:α->β->Prop}(x:String)(s:Sem β):Im S P R (stuck x) s:=Im.halt _ _
theorem y9{α β:Type}{R:α->β->Prop}(x:Unsupported)(s:Sem β):Im S P R (unsupported x) s:=Im.halt _ _
theorem a7W{α β:Type}{R:α->β->Prop}(x:Value)(s:Sem β):Im S P R (goPanic x) s:=Im.halt _ _
theorem a2Z(n:Nat):Im S P (fun _ _=>True) (askRoom n) (askRoom n):=by
 unfold askRoom;split
 ·exact b5n trivial
 ·exact Im.pure trivial
theorem D8(t:TypeId):Im S P (fun a b=>b=a/\P.underlying t=some a) (underlying t) (underlying t):=by
 unfold underlying;refine Im.bind Y4 ?_;rintro _ _ ⟨rfl,rfl⟩;split
 ·rename_i h;exact Im.pure ⟨rfl,h⟩
 ·exact A7 _ _
theorem X6(t:TypeId):Im S P (fun a b=>b=a/\P.info? t=some a) (typeInfo t) (typeInfo t):=by
 unfold typeInfo;refine Im.bind Y4 ?_;rintro _ _ ⟨rfl,rfl⟩;split
 ·rename_i h;exact Im.pure ⟨rfl,h⟩
 ·exact A7 _ _
theorem U1(t:TypeId):Im S P (fun a b=>b=a) (sizeOf t) (sizeOf t):=by
 unfold sizeOf;refine Im.bind (X6 t) ?_;rintro a _ ⟨rfl,_⟩;exact Im.pure rfl
theorem b8k(t:TypeId):Im S P (fun a b=>b=a) (isAgg t) (isAgg t):=by
 unfold isAgg;refine Im.bind (D8 t) ?_;rintro a _ ⟨rfl,_⟩;split<;>exact Im.pure rfl
theorem b58(t:TypeId):Im S P (fun a b=>b=a) (elemOf t) (elemOf t):=by
 unfold elemOf;refine Im.bind (D8 t) ?_;rintro a _ ⟨rfl,_⟩;split
 ·exact Im.pure rfl
 ·exact A7 _ _
theorem X7(t:TypeId)(hz:ZOK S P t):Im S P (VR S) (zeroValue t) (zeroValue t):=by
 unfold zeroValue;refine Im.bind (X6 t) ?_;rintro a _ ⟨rfl,hi⟩;split
 ·rename_i h;exact Im.pure (hz _ _ hi h)
 ·exact y9 _ _
theorem VR.cells{v v':Value}(h:VR S v v'):AR S v.cells v'.cells:=by
 cases h with
 | agg c c' hc hc'=>exact⟨hc,hc'⟩
 | _=>exact AR.one (by constructor<;>assumption)
theorem a5Z{a:Addr}(h:S.D a.block)(n:Nat):∀(i:Nat)(acc acc':Array Value),AR S acc acc'->Im S P (AR S) (loadCellsFrom a i n acc) (loadCellsFrom (rA S a) i n acc'):=by
 induction n with
 | zero=>intro i acc acc' hA;exact Im.pure hA
 | succ n ih=>
  intro i acc acc' hA;unfold loadCellsFrom;rw[<-a1Z];refine Im.bind (b5m (by rw[add_block];exact h)) ?_;intro v v' hv;exact ih _ _ _ (hA.push hv)
theorem a3a{a:Addr}(h:S.D a.block)(n:Nat):Im S P (AR S) (loadCells a n) (loadCells (rA S a) n):=a5Z h n 0 _ _ AR.nil
theorem a0B{a:Addr}(h:S.D a.block):∀(l l':List Value)(i:Nat),LR (VR S) l l'->Im S P (fun _ _=>True) (storeCells a l i) (storeCells (rA S a) l' i):=by
 intro l l' i hl
 induction hl generalizing i with
 | nil=>exact Im.pure trivial
 | cons hv _ ih=>
  unfold storeCells;rw[<-a1Z];refine Im.bind (b8j (by rw[add_block];exact h) hv) ?_;intro _ _ _;exact ih _
theorem AR.list{c c':Array Value}(h:AR S c c'):LR (VR S) c.toList c'.toList:=by
 obtain⟨l⟩:=c;obtain⟨l'⟩:=c';obtain⟨h1,h2⟩:=h;simp only[List.size_toArray] at h1;simp only[List.getElem_toArray] at h2
 induction l generalizing l' with
 | nil=>
  cases l' with
  | nil=>exact .nil
  | cons _ _=>simp at h1
 | cons x l ih=>
  cases l' with
  | nil=>simp at h1
  | cons y l'=>
   refine .cons (h2 0 (by simp) (by simp)) (ih l' (fun i h3 h4=>?_) (by simpa using h1));have:=h2 (i+1) (by simpa using h3) (by simpa using h4);simpa using this
theorem a7X(t:TypeId){a:Addr}(h:S.D a.block):Im S P (VR S) (loadVar t a) (loadVar t (rA S a)):=by
 unfold loadVar;refine Im.bind (b8k t) ?_;rintro b _ rfl;split
 ·refine Im.bind (U1 t) ?_;rintro n _ rfl;refine Im.bind (a3a h _) ?_;intro c c' hc;exact Im.pure (VR.agg' hc)
 ·exact b5m h
theorem b2b(t:TypeId){a:Addr}(h:S.D a.block){v v':Value}(hv:VR S v v'):Im S P (fun _ _=>True) (storeVar t a v) (storeVar t (rA S a) v'):=by
 unfold storeVar;refine Im.bind (U1 t) ?_;rintro n _ rfl;have hc:=hv.cells;dsimp only;rw[hc.size];split
 ·exact A7 _ _
 ·exact a0B h _ _ _ hc.list
theorem a1R(t:TypeId){c c':Array Value}(h:AR S c c'):Im S P (fun a a'=>S.D a.block/\a'=rA S a) (newRow t c) (newRow t c'):=by
 unfold newRow;refine Im.bind (a9W (.cells _ _ _ _ _ h (c09.refl _))) ?_;rintro r _ ⟨hr,rfl⟩;exact Im.pure ⟨hr,rfl⟩
theorem a9X(t:TypeId){v v':Value}(h:VR S v v'):Im S P (fun a a'=>S.D a.block/\a'=rA S a) (newVar t v) (newVar t v'):=a1R t h.cells
def eOK:RuntimeError->Prop
 | .typeAssertion ..=>False
 | _=>True
theorem P6{α β:Type}{R:α->β->Prop}(e:RuntimeError)(he:eOK e):Im S P R (runtimePanic e) (runtimePanic e):=by
 unfold runtimePanic;refine Im.bind Y4 ?_;rintro p p' ⟨hp,hp'⟩;subst hp';subst hp
 cases e with
 | typeAssertion i c a m=>exact he.elim
 | panicNil=>
  refine Im.bind (b58 _) ?_;rintro x _ rfl
  exact Im.bind (a9X _ (VR.agg' AR.nil)) fun _ _ _=>a7W _ _
 | _=>exact a7W _ _
theorem a14{α β:Type}{R:α->β->Prop}(k:IntKind)(x y:Int)(c:BoundsCode):Im S P R (boundsPanic k x y c) (boundsPanic k x y c):=by
 unfold boundsPanic;dsimp only;split
 ·refine Im.bind (R:=fun a b=>b=a) (Im.bind (S:=S) (P:=P) (R:=fun a b=>b=a) (a2H _) ?_) ?_
  ·rintro a _ rfl;exact Im.pure rfl
  ·rintro a _ rfl;exact P6 _ trivial
 ·refine Im.bind (R:=fun a b=>b=a) (Im.pure rfl) ?_;rintro a _ rfl;exact P6 _ trivial
theorem a4N{v v':Value}(h:VR S v v'):Im S P (fun a b=>b=a/\v=.int a.1 a.2) (asIntOf v) (asIntOf v'):=by
 cases h<;>first|exact Im.pure ⟨rfl,rfl⟩|exact y9 _ _|exact A7 _ _
theorem b8l{v v':Value}(h:VR S v v'):Im S P (fun a b=>b=a) (asInt v) (asInt v'):=by
 unfold asInt;refine Im.bind (a4N h) ?_;rintro a _ ⟨rfl,_⟩;exact Im.pure rfl
theorem b59{v v':Value}(h:VR S v v'):Im S P (fun a b=>b=a) (asBool v) (asBool v'):=by
 cases h<;>first|exact Im.pure rfl|exact A7 _ _
theorem a9Y{v v':Value}(h:VR S v v'):Im S P (fun a a'=>S.D a.block/\a'=rA S a) (asAddr v) (asAddr v'):=by
 cases h with
 | pnil=>exact P6 (α:=Addr) (β:=Addr) .nilDeref trivial
 | ptr a h=>exact Im.pure ⟨h,rfl⟩
 | _=>exact A7 _ _
theorem a1t{v v':Value}(h:VR S v v'):Im S P (fun a a'=>S.D a.block/\a'=rA S a) (Instr.sureAddr v) (Instr.sureAddr v'):=by
 cases h with
 | ptr a h=>exact Im.pure ⟨h,rfl⟩
 | _=>exact A7 _ _
theorem a9Z{r:Nat}(h:S.D r):Im S P (fun o o'=>∃a l,S.D a.block/\o=.number a l/\o'=.number (rA S a) l) (getObj r) (getObj (S.ren r)):=⟨h,rfl,fun a l ha=>⟨a,l,ha,rfl,rfl⟩⟩
theorem a90{r:Nat}(h:S.D r):Im S P (fun a b=>b=a) (viewAt r) (viewAt (S.ren r)):=by
 unfold viewAt;refine Im.bind (a3J h) ?_;rintro s _ rfl;split
 ·exact Im.pure rfl
 ·refine Im.bind (a9Z h) ?_;rintro _ _ ⟨a,l,ha,rfl,rfl⟩;exact Im.pure rfl
inductive NR(S:Sit):Option (Addr×Bool)->Option (Addr×Bool)->Prop
 | none:NR S none none
 | some (a:Addr) (l:Bool) (h:S.D a.block):NR S (some (a,l)) (some (rA S a,l))
theorem a6M{r:Nat}(h:S.D r):Im S P (NR S) (numberAt r) (numberAt (S.ren r)):=by
 unfold numberAt;refine Im.bind (a3J h) ?_;rintro s _ rfl;split
 ·exact Im.pure .none
 ·refine Im.bind (a9Z h) ?_;rintro _ _ ⟨a,l,ha,rfl,rfl⟩;exact Im.pure (.some a l ha)
theorem U3{a:Addr}(h:S.D a.block):Im S P (fun p p'=>S.D p.1.block/\p'=(rA S p.1,p.2)) (behindNumber a) (behindNumber (rA S a)):=by
 unfold behindNumber;refine Im.bind (a6M h) ?_;intro o o' ho
 cases ho with
 | none=>exact Im.pure ⟨h,rfl⟩
 | some b l hb=>exact Im.pure ⟨hb,rfl⟩
theorem b2c{a:Addr}(h:S.D a.block)(l:Bool):Im S P (VR S) (asNumber a l) (asNumber (rA S a) l):=by
 unfold asNumber;refine Im.bind (a9W (.number _ _ h)) ?_;rintro r _ ⟨hr,rfl⟩;exact Im.pure (.ptr ⟨r,0,none⟩ hr)
theorem b6a{a:Addr}(h:S.D a.block):Im S P (fun _ _=>True) (noView a) (noView (rA S a)):=by
 unfold noView;refine Im.bind (a90 h) ?_;rintro s _ rfl;split
 ·exact y9 _ _
 ·exact Im.pure trivial
end
end Go.Bi
