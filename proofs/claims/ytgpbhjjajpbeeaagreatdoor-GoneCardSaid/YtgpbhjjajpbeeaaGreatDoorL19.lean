/- A part of what the last file proves. -/
import Derived.Test.YtgpbhjjajpbeeaaGreatDoorL18
set_option linter.all false
set_option maxRecDepth 100000
set_option maxHeartbeats 4000000
namespace Go.Bi
section
open Zn (ext low kk Gr K0 Nx a0B N8 a0d a0R a1n xx Full a2o ret_go)
variable{S:Sit}{P:Program}{X:Tmp->Prop}
theorem c2e{α:Type}{Q:Value->Value->Prop}(f f':α->Sem Value)(l:List α)(h:∀x∈l,Im S P Q (f x) (f' x)):Im S P (LR Q) (l.mapM f) (l.mapM f'):=by
 induction l with
 | nil=>exact Im.pure .nil
 | cons x l ih=>
  rw[List.mapM_cons,List.mapM_cons];refine Im.bind (h x (by simp)) ?_;intro a a' ha;refine Im.bind (ih fun y hy=>h y (by simp[hy])) ?_;intro b b' hb;exact Im.pure (.cons ha hb)
theorem LR.array{l l':List Value}(h:LR (VR S) l l'):AR S l.toArray l'.toArray:=by
 induction h with
 | nil=>exact AR.nil
 | cons hx _ ih=>
  rename_i a b l k _;have e:∀(x:Value)(l:List Value),(x::l).toArray=#[x]++l.toArray:=fun x l=>by simp
  rw[e a,e b];exact(AR.one hx).append ih
theorem b38{fn:Func}{tmps tmps':Array Value}(h:∀t,VR S (tmps.getD t undef) (tmps'.getD t undef)):Im S P (VR S) (results fn tmps) (results fn tmps'):=by
 unfold results;refine Im.bind (R:=AR S) ?_ ?_
 ·rw[Array.mapM_eq_mapM_toList,Array.mapM_eq_mapM_toList];show Im S P _ (Functor.map List.toArray _) (Functor.map List.toArray _);rw[map_eq_pure_bind,map_eq_pure_bind];refine Im.bind (c2e (Q:=VR S) _ _ _ fun r _=>?_) ?_
  ·cases r with
   | tmp t=>exact Im.pure (h t)
   | cell a t=>
    refine Im.bind (b0s (h a)) ?_;rintro a _ ⟨ha,rfl⟩;exact a8r _ ha
  ·intro l l' hl;exact Im.pure hl.array
 ·intro vs vs' hv;by_cases h1:vs.size=1
  ·have h2:vs'.size=1:=by rw[<-hv.size];exact h1
   rw[dif_pos h1,dif_pos h2];exact Im.pure (hv.at_ 0 (by omega) (by omega))
  ·have h2:¬vs'.size=1:=by rw[<-hv.size];exact h1
   rw[dif_neg h1,dif_neg h2];exact Im.pure (VR.tuple' hv)
section
variable{Z:Zn.Zone}{Sh:Nat->Prop}{Xu:Tmp->Prop}{fr fr2:Frame}{l l2:List Frame}{w w2:World}{fr':Frame}{l':List Frame}{w':World}{es:Array Event}
theorem Fol.congr{s s':List Item->List Frame->GStep}(h:∀κ cs,s κ cs=s' κ cs)(k:Fol P S X w2 s' fr' l' w'):Fol P S X w2 s fr' l' w':=by
 have:s=s':=by funext κ cs;exact h κ cs
 rw[this];exact k
theorem turn_bi(hP:PQB S P)(hc:Cur S w)(hLo:a4U S P X l l2)(hW:WR S w w2){fr0 fr20:Frame}(hF:FrR S P X l fr0 fr20)(h0:GStep.go {frame:=fr0,callers:=l,status:=.running,dying:=none} w #[]=.go (Gr fr' l' [] []) w' es){s:List Item->List Frame->GStep}
 (h:∀κ cs,s κ cs=.go (Gr fr20 l2 κ cs) w2 #[]):Fol P S X w2 s fr' l' w':=by
 rw[a3R] at h0;injection h0 with h1 h2 h3;injection h1 with h4 h5;subst h4;subst h5;subst h2;exact⟨S,fr20,l2,w2,#[],h,.refl S,hP,hc,hF,hLo,hW,⟨Nat.le_refl _,rfl,rfl,rfl,fun _ _ _=>rfl,fun b h k=>.inl ⟨k,h⟩,by simp,fun b h=>.inl h⟩⟩
theorem c2f(hPk:∀Z',Zn.Le Z Z'->Zn.PQK Z' P)(hI:Zn.Inv Z Sh Xu fr l w)(hP:PQB S P)(hc:Cur S w)(hF:FrR S P X l fr fr2)(hLo:a4U S P X l l2)(hW:WR S w w2)
 (h1:P.globals.size<=w.heap.size)(h2:P.globals.size<=w2.heap.size)(ht:w2.tape=w.tape)(hd:w2.drawn=w.drawn)
 (hcode:∀f fn c,S.F f->P.funcs[f]?=some fn->fn.body=some c->CodeB S P Full c)(hm:fr.mode=.run)(hm':∀c,fr'.mode≠.panicking c)
 (hx:∀κ cs,stepG.exec P true true (ext fr (kk l κ)) (low l κ cs) none w=.go (Gr fr' l' κ cs) w' es):
 Fol P S X w2 (fun κ cs=>stepG.exec P false true (ext fr2 (kk l2 κ)) (low l2 κ cs) none w2) fr' l' w':=by
 have hF0:=hF;have h0:=hx [] [];have hg:=a3R fr l;unfold Gr at hg;injection hg with hg1 hg2;rw[hg1,hg2] at h0;obtain⟨fn,tmps,todo,defers,mode,kind,roundOf⟩:=fr;obtain⟨fn',tmps',todo',defers',mode',kind',roundOf'⟩:=fr2;obtain⟨f1,f2,f3,f4,f5,f6,f7,f8,f9,f10,f11,f12,f13⟩:=hF;dsimp only at f1 f2 f3 f4 f5 f6 f7 f8 f9 f10 f11 f12 hm;subst f1;subst f4;subst f8;subst f9;subst hm;subst f6;have e1:=fun κ:List Item=>hLo.kk κ;have leave:∀{td:List Item},(∀x∈td,a1v S P (xx l X) x)->
  GStep.go {frame:={fn:=fn',tmps:=tmps,todo:=td,defers:=defers,mode:=.returning,kind:=kind},callers:=l,status:=.running,dying:=none} w #[]=.go (Gr fr' l' [] []) w' es->
  ∀{s:List Item->List Frame->GStep},(∀κ cs,s κ cs=.go (Gr {fn:=fn',tmps:=tmps',todo:=td,defers:=defers',mode:=.returning,kind:=kind'} l2 κ cs) w2 #[])->Fol P S X w2 s fr' l' w':=fun{td}hk h0{s}h=>
  turn_bi (fr0:={fn:=fn',tmps:=tmps,todo:=td,defers:=defers,mode:=.returning,kind:=kind}) (fr20:={fn:=fn',tmps:=tmps',todo:=td,defers:=defers',mode:=.returning,kind:=kind'}) hP hc hLo hW ⟨rfl,f2,f3,rfl,hk,rfl,.inr rfl,rfl,rfl,f10,f11,f12,f13⟩ h0 h
 have hbot:∀κ,l≠[]->kk l2 κ = []:=fun κ hne=>by
  rw[e1];cases l with
  | nil=>exact absurd rfl hne
  | cons=>rfl
 cases todo' with
 | nil=>
  by_cases hl:l=[]
  ·subst hl;have:=hx K0 [];cases this
  ·refine leave (td:=[]) (by simp) h0 fun κ cs=>?_;rw[hbot κ hl];unfold Gr;rw[hbot κ hl]
   rfl
 | cons x k=>
  have hk:∀y∈k,a1v S P (xx l X) y:=fun y hy=>f5 y (by simp[hy]);have hx1:=f5 x (by simp);have tgo:∀{td:List Item},(∀x∈td,a1v S P (xx l X) x)->GStep.go {frame:={fn:=fn',tmps:=tmps,todo:=td,defers:=defers,mode:=.run,kind:=kind},callers:=l,status:=.running,dying:=none} w #[]=.go (Gr fr' l' [] []) w' es->
   ∀{s:List Item->List Frame->GStep},(∀κ cs,s κ cs=.go (Gr {fn:=fn',tmps:=tmps',todo:=td,defers:=defers',mode:=.run,kind:=kind'} l2 κ cs) w2 #[])->Fol P S X w2 s fr' l' w':=fun{td}hk h0{s}h=>
   turn_bi (fr0:={fn:=fn',tmps:=tmps,todo:=td,defers:=defers,mode:=.run,kind:=kind}) (fr20:={fn:=fn',tmps:=tmps',todo:=td,defers:=defers',mode:=.run,kind:=kind'}) hP hc hLo hW ⟨rfl,f2,f3,rfl,hk,rfl,.inl rfl,rfl,rfl,f10,f11,f12,f13⟩ h0 h
  have c1:∀{a:Item},a1v S P (xx l X) a->∀y∈a::k,a1v S P (xx l X) y:=fun ha y hy=>by
   rcases List.mem_cons.1 hy with rfl|hy
   ·exact ha
   ·exact hk y hy
  have c2:∀{a b:Item},a1v S P (xx l X) a->a1v S P (xx l X) b->∀y∈a::b::k,a1v S P (xx l X) y:=fun ha hb y hy=>by
   rcases List.mem_cons.1 hy with rfl|hy
   ·exact ha
   ·exact c1 hb y hy
  cases hx1 with
  | inBlock id=>exact tgo hk h0 fun _ _=>rfl
  | inLoop c h=>exact tgo (c2 (.code c h) (.inLoop c h)) h0 fun _ _=>rfl
  | inRegion ops is ho=>
   cases is with
   | nil=>exact tgo hk h0 fun _ _=>rfl
   | cons i rest=>
    have ey:yielded ops tmps'=yielded ops tmps:=b37 hF0 fun o h=>(ho o h).2.2;by_cases hw:((ops[i]?).map (Region.wanted · (yielded ops tmps))).getD false=true
    ·have hw2:((ops[i]?).map (Region.wanted · (yielded ops tmps'))).getD false=true:=by rw[ey];exact hw
     cases hoi:ops[i]? with
     | none=>rw[hoi] at hw;cases hw
     | some o=>
      have hob:=ho o (Array.mem_of_getElem? hoi);have hzi:=hI.fr.1.todo (.inRegion ops (i::rest)) (by simp);have hop:Zn.OpP (Zn.Zf Z Sh w.heap.size) o.op/\Zn.OpU (xx l Xu) o.op:=by
       cases hzi with
       | inRegion _ _ h hu=>exact⟨h o (Array.mem_of_getElem? hoi),hu o (Array.mem_of_getElem? hoi)⟩
      have hh:(∃a u,(execOp (Frame.eval ⟨fn',tmps,.inRegion ops (i::rest)::k,defers,.run,kind,none⟩) o).run P w=.ok a u)\/∃x u,(execOp (Frame.eval ⟨fn',tmps,.inRegion ops (i::rest)::k,defers,.run,kind,none⟩) o).run P w=.halt x u/\Zn.HaltOK x:=by
       rcases Zn.both (fun Z' hZ=>Zn.sf_execOp (hPk Z' (hI.W.le.trans hZ)) (hop.1.mono hZ).1 fun x hx=>Zn.oprP_eval (hI.fr.1.mono hZ) x ((hop.1.mono hZ).2 x hx) fun t e=>hop.2 x hx t e) hI.W with⟨a,u,es,k1,ha,hT,-⟩|⟨x,u,es,k1,ha,hT,hok,-⟩
       ·have e:=hT w.tape w.drawn fun _ _ _=>rfl;rw[Zn.tp_self] at e;exact .inl ⟨a,_,by rw[<-Sem.runT_fst P _ w #[],e]⟩
       ·have e:=hT w.tape w.drawn fun _ _ _=>rfl;rw[Zn.tp_self] at e;exact .inr ⟨x,_,by rw[<-Sem.runT_fst P _ w #[],e],hok⟩
      have hnd:∀c,o.op≠.defer c:=fun c e=>by have:=hob.1;rw[e] at this;exact this
      have h0':stepG.apply P true ⟨fn',tmps,.inRegion ops (i::rest)::k,defers,.run,kind,none⟩ l none (execOp (Frame.eval ⟨fn',tmps,.inRegion ops (i::rest)::k,defers,.run,kind,none⟩) o) w=.go (Gr fr' l' [] []) w' es:=by
       rw[<-h0];unfold stepG.exec;dsimp only;rw[if_pos hw];unfold stepG.oper;simp only[show(Frame.oper? ⟨fn',tmps,.inRegion ops (i::rest)::k,defers,.run,kind,none⟩)=some o from hoi]
      refine Fol.congr (fun κ cs=>?_) (b9j hP hc hF0 hLo hW h1 h2 ht hd hcode rfl rfl hm' (s2:=execOp (Frame.eval ⟨fn',tmps',.inRegion ops (i::rest)::k,defers',.run,kind',none⟩) o) (fun S' hL hP'=>b6K hP' (hob.1.mono hL) (fun x hx=>(hF0.mono hL).eval ((hob.2.1 x hx).1.mono hL) (hob.2.1 x hx).2) (fun v=>⟨rfl,rfl⟩) fun f=>⟨rfl,rfl⟩) hh h0');have e3:=a0d ⟨fn',tmps',.inRegion ops (i::rest)::k,defers',.run,kind',none⟩ (kk l2 κ);rw[<-e3];show stepG.exec P false true ⟨fn',tmps',.inRegion ops (i::rest)::(k++kk l2 κ),defers',.run,kind',none⟩ (low l2 κ cs) none w2=_;unfold stepG.exec;dsimp only;rw[if_pos hw2];unfold stepG.oper;simp only[show(Frame.oper? ⟨fn',tmps',.inRegion ops (i::rest)::(k++kk l2 κ),defers',.run,kind',none⟩)=some o from hoi];rfl
    ·have hw2:¬((ops[i]?).map (Region.wanted · (yielded ops tmps'))).getD false=true:=by rw[ey];exact hw
     have h0':GStep.go {frame:=Frame.finish ⟨fn',tmps,.inRegion ops (i::rest)::k,defers,.run,kind,none⟩ undef,callers:=l,status:=.running,dying:=none} w #[]=.go (Gr fr' l' [] []) w' es:=by
      rw[<-h0];unfold stepG.exec;dsimp only;rw[if_neg hw]
     refine turn_bi hP hc hLo hW (hF0.finish rfl a2O) h0' fun κ cs=>?_;unfold Gr;rw[<-N8 (by simp)];show stepG.exec P false true ⟨fn',tmps',.inRegion ops (i::rest)::(k++kk l2 κ),defers',.run,kind',none⟩ (low l2 κ cs) none w2=_;unfold stepG.exec;dsimp only;rw[if_neg hw2]
     rfl
  | code c h=>
   cases c with
   | skip=>exact tgo hk h0 fun _ _=>rfl
   | label _=>exact tgo hk h0 fun _ _=>rfl
   | seq a b=>exact tgo (c2 (.code _ h.1) (.code _ h.2)) h0 fun _ _=>rfl
   | block id b=>exact tgo (c2 (.code b h) (.inBlock id)) h0 fun _ _=>rfl
   | loop b=>exact tgo (c2 (.code b h) (.inLoop b h)) h0 fun _ _=>rfl
   | cond c a b=>
    have hv:=hF0.eval h.1.1 h.1.2;have e3:=fun κ=>a0d ⟨fn',tmps',.code (.cond c a b)::k,defers',.run,kind',none⟩ κ;unfold stepG.exec at h0;dsimp only at h0;generalize hv1:Frame.eval ⟨fn',tmps,.code (.cond c a b)::k,defers,.run,kind,none⟩ c=v at hv h0;generalize hv2:Frame.eval ⟨fn',tmps',.code (.cond c a b)::k,defers',.run,kind',none⟩ c=v2 at hv
    cases hv with
    | bool t=>
     refine tgo (td:=.code (if t then a else b)::k) (c1 (.code _ ?_)) h0 fun κ cs=>?_
     ·split
      ·exact h.2.1
      ·exact h.2.2
     ·have e4:Frame.eval ⟨fn',tmps',.code (.cond c a b)::(k++kk l2 κ),defers',.run,kind',none⟩ c=.bool t:=by rw[<-hv2];exact congrFun (e3 (kk l2 κ)) c
      show stepG.exec P false true ⟨fn',tmps',.code (.cond c a b)::(k++kk l2 κ),defers',.run,kind',none⟩ (low l2 κ cs) none w2=_;unfold stepG.exec;dsimp only;rw[e4]
      rfl
    | _=>cases h0
   | exit id=>
    unfold stepG.exec at h0;dsimp only at h0
    cases e:exitTo id k with
    | none=>rw[e] at h0;cases h0
    | some k'=>
     rw[e] at h0;refine tgo (td:=k') (fun y hy=>hk y (a1n e y hy)) h0 fun κ cs=>?_;show stepG.exec P false true ⟨fn',tmps',.code (.exit id)::(k++kk l2 κ),defers',.run,kind',none⟩ (low l2 κ cs) none w2=_;unfold stepG.exec;dsimp only;rw[a0R _ e]
     rfl
   | ret=>exact leave f5 h0 fun κ cs=>rfl
   | region id ops draw=>
    cases draw with
    | false=>exact tgo (c1 (.inRegion _ _ h)) h0 fun _ _=>rfl
    | true=>
     have hr:∀w:World,(choose (.order fn' id)).run P w=.ok (Question.cut (.order fn' id) (w.tape w.drawn (.order fn' id))) {w with drawn:=w.drawn+1}:=fun w=>rfl;unfold stepG.exec at h0;dsimp only[Bool.not_true] at h0;rw[if_neg (by simp),hr,a3R] at h0;dsimp only at h0;injection h0 with g1 g2 g3;injection g1 with g4 g5;subst g4;subst g5;subst g2;refine⟨S,⟨fn',tmps',.inRegion ops (Region.schedule (P.follows .mixedOrders) ops (Question.cut (.order fn' id) (w.tape w.drawn (.order fn' id))))::k,defers',.run,kind',none⟩,l2,{w2 with drawn:=w2.drawn+1},#[],fun κ cs=>?_,.refl S,hP,hc,
      ⟨rfl,f2,f3,rfl,c1 (.inRegion _ _ h),rfl,.inl rfl,rfl,rfl,f10,f11,f12,f13⟩,hLo,hW.draw _ _,⟨Nat.le_refl _,rfl,rfl,rfl,fun _ _ _=>rfl,fun b h k=>.inl ⟨k,h⟩,by simp,fun b h=>.inl h⟩⟩
     show stepG.exec P false true ⟨fn',tmps',.code (.region id ops true)::(k++kk l2 κ),defers',.run,kind',none⟩ (low l2 κ cs) none w2=_;unfold stepG.exec;dsimp only[Bool.not_true];rw[if_neg (by simp),hr,ht,hd]
     rfl
   | _=>exact(h:False).elim
theorem b6L(hI:Zn.Inv Z Sh Xu fr l w)(hPk:∀Z',Zn.Le Z Z'->Zn.PQK Z' P)(hP:PQB S P)(hc:Cur S w)(hF:FrR S P X l fr fr2)(hLo:a4U S P X l l2)(hW:WR S w w2)
 (h1:P.globals.size<=w.heap.size)(h2:P.globals.size<=w2.heap.size)(ht:w2.tape=w.tape)(hd:w2.drawn=w.drawn)(hm:fr.mode=.returning)
 (hx:∀κ cs,unwind P true (ext fr (kk l κ)) (low l κ cs) none w=.go (Gr fr' l' κ cs) w' es):
 Fol P S X w2 (fun κ cs=>unwind P false (ext fr2 (kk l2 κ)) (low l2 κ cs) none w2) fr' l' w':=by
 have em:∀k,(ext fr k).mode=.returning:=fun _=>hm;have em2:∀k,(ext fr2 k).mode=.returning:=fun _=>hF.mode.trans hm;have ed:∀k,(ext fr k).defers=[]:=fun _=>hF.ld;have retGo:∀(main:Bool){f c:Frame}{l:List Frame}(hk:f.kind=.normal)(hc:c.todo≠[])(v:Value)(es:Array Event)(κ:List Item)(cs:List Frame)(w:World),
  GStep.after es (doReturn P main f (low (c::l) κ cs) none v w)=.go (Gr (c.finish v) l κ cs) w (es++#[]):=fun main f c l hk hc v es κ cs w=>by
  unfold doReturn;rw[hk];show GStep.after es (GStep.go {frame:=(ext c (kk l κ)).finish v,callers:=low l κ cs,status:=.running,dying:=none} w)=_;rw[N8 hc];rfl
 have retGo0:∀(main:Bool){f c:Frame}{l:List Frame}(hk:f.kind=.normal)(hc:c.todo≠[])(v:Value)(κ:List Item)(cs:List Frame)(w:World),
  doReturn P main f (low (c::l) κ cs) none v w=.go (Gr (c.finish v) l κ cs) w #[]:=fun main f c l hk hc v κ cs w=>by
  unfold doReturn;rw[hk];show GStep.go {frame:=(ext c (kk l κ)).finish v,callers:=low l κ cs,status:=.running,dying:=none} w=_;rw[N8 hc];rfl
 cases hLo with
 | nil=>
  exfalso;have hlen:∀(l:List Frame)κ(cs:List Frame),(low l κ cs).length=l.length+cs.length:=fun l κ cs=>by
   induction l with
   | nil=>simp[low]
   | cons x l ih=>simp only[low,List.length_cons,ih];omega
  have h0:=hx [] [Zn.c0];have hret:∀(v:Value)(u:World)(es0:Array Event),GStep.after es0 (doReturn P true (ext fr (kk [] [])) (low [] [] [Zn.c0]) none v u)≠.go (Gr fr' l' [] [Zn.c0]) w' es:=fun v u es0 e=>by
   unfold doReturn low at e;have key:∀(f:Frame),GStep.after es0 (GStep.go {frame:=f,callers:=[],status:=.running,dying:=none} u)≠.go (Gr fr' l' [] [Zn.c0]) w' es:=fun f e=>by
    injection e with e1 e2 e3;have:=congrArg (fun g:Goroutine=>g.callers.length) e1;simp only[Gr,hlen,List.length_cons,List.length_nil] at this;omega
   cases hk:(ext fr (kk [] [])).kind<;>(rw[hk] at e;exact key _ e)
  have hret0:∀(v:Value)(u:World),doReturn P true (ext fr (kk [] [])) (low [] [] [Zn.c0]) none v u≠.go (Gr fr' l' [] [Zn.c0]) w' es:=fun v u e=>by
   unfold doReturn low at e;have key:∀(f:Frame),GStep.go {frame:=f,callers:=[],status:=.running,dying:=none} u≠.go (Gr fr' l' [] [Zn.c0]) w' es:=fun f e=>by
    injection e with e1 e2 e3;have:=congrArg (fun g:Goroutine=>g.callers.length) e1;simp only[Gr,hlen,List.length_cons,List.length_nil] at this;omega
   cases hk:(ext fr (kk [] [])).kind<;>(rw[hk] at e;exact key _ e)
  unfold unwind at h0;rw[ed,em] at h0;dsimp only at h0
  cases hfn:P.funcs[(ext fr (kk [] [])).fn]? with
  | none=>rw[hfn] at h0;exact hret0 _ _ h0
  | some fn=>
   rw[hfn] at h0;dsimp only at h0
   cases hr:(results fn (ext fr (kk [] [])).tmps).runT P w #[] with
   | mk r es0=>
   rw[hr] at h0
   cases r with
   | ok v u=>exact hret _ _ _ h0
   | halt x u=>cases x<;>cases h0
 | cons c c2 l0 k0 hcR hcm hcn hl0=>
  obtain⟨u1,u2,u3,u4⟩:=hF.up (by simp);have ed2:∀k,(ext fr2 k).defers=[]:=fun _=>u4;have hvr:∀t,VR S (fr.tmps.getD t undef) (fr2.tmps.getD t undef):=fun t=>hF.tmps t trivial;have hcn2:c2.todo≠[]:=by rw[hcR.todo];exact hcn
  cases hfn:P.funcs[fr.fn]? with
  | none=>
   have h0:=hx [] [];unfold unwind at h0;rw[ed,em] at h0;dsimp only at h0;rw[show(ext fr (kk (c::l0) [])).fn=fr.fn from rfl,hfn] at h0;dsimp only at h0;rw[retGo0 true (f:=ext fr (kk (c::l0) [])) u1 hcn] at h0;injection h0 with g1 g2 g3;rw[a3R,a3R] at g1;injection g1 with g4 g5;subst g4;subst g5;subst g2;refine⟨S,c2.finish (fr2.tmps.getD 0 undef),k0,w2,#[],fun κ cs=>?_,.refl S,hP,hc,hcR.finish hcm (hvr 0),hl0,hW,⟨Nat.le_refl _,rfl,rfl,rfl,fun _ _ _=>rfl,fun b h k=>.inl ⟨k,h⟩,by simp,fun b h=>.inl h⟩⟩;show unwind P false (ext fr2 (kk (c2::k0) κ)) (low (c2::k0) κ cs) none w2=_;unfold unwind;rw[ed2,em2];dsimp only;rw[show(ext fr2 (kk (c2::k0) κ)).fn=fr2.fn from rfl,hF.fn,hfn];dsimp only;rw[retGo0 false (f:=ext fr2 (kk (c2::k0) κ)) u2 hcn2]
   rfl
  | some fn=>
   have h0:=hx [] [];unfold unwind at h0;rw[ed,em] at h0;dsimp only at h0;rw[show(ext fr (kk (c::l0) [])).fn=fr.fn from rfl,hfn] at h0;dsimp only at h0;rw[show(ext fr (kk (c::l0) [])).tmps=fr.tmps from rfl] at h0
   cases hr:(results fn fr.tmps).runT P w #[] with
   | mk r es0=>
   rw[hr] at h0;have hr1:(results fn fr.tmps).run P w=r:=by rw[<-Sem.runT_fst P _ w #[],hr]
   cases r with
   | halt x u=>cases x<;>cases h0
   | ok v u=>
    dsimp only at h0;rw[retGo true (f:=ext fr (kk (c::l0) [])) u1 hcn] at h0;injection h0 with g1 g2 g3;rw[a3R,a3R] at g1;injection g1 with g4 g5;subst g4;subst g5;subst g2;obtain⟨S',b,u2',es2,g1,g2,g3,g4,g5,g6,g7,g8,g9,g10,g11,g12,g13,g14,g15,g16,g17⟩:=both hP hc hW h1 h2 ht hd (R:=fun S=>VR S) (fun S' hL hP'=>b38 (fn:=fn) (tmps':=fr2.tmps) fun t=>(hvr t).mono hL) hr1;refine⟨S',c2.finish b,k0,u2',seen P fr2.fn es2++#[],fun κ cs=>?_,g2,g3,g4,(hcR.mono g2).finish hcm g5,hl0.mono g2,g6,⟨g8,g9,g12,g13,g15,g16,fun e he=>g14 e (by rw[Array.append_empty] at he;exact Go.Conc.mem_seen he),g17⟩⟩;show unwind P false (ext fr2 (kk (c2::k0) κ)) (low (c2::k0) κ cs) none w2=_;unfold unwind;rw[ed2,em2];dsimp only;rw[show(ext fr2 (kk (c2::k0) κ)).fn=fr2.fn from rfl,hF.fn,hfn];dsimp only;rw[show(ext fr2 (kk (c2::k0) κ)).tmps=fr2.tmps from rfl,g1];dsimp only;rw[retGo false (f:=ext fr2 (kk (c2::k0) κ)) u2 hcn2]
theorem c2g(hPk:∀Z',Zn.Le Z Z'->Zn.PQK Z' P)(hI:Zn.Inv Z Sh Xu fr l w)(hP:PQB S P)(hc:Cur S w)(hF:FrR S P X l fr fr2)(hLo:a4U S P X l l2)(hW:WR S w w2)
 (h1:P.globals.size<=w.heap.size)(h2:P.globals.size<=w2.heap.size)(ht:w2.tape=w.tape)(hd:w2.drawn=w.drawn)
 (hcode:∀f fn c,S.F f->P.funcs[f]?=some fn->fn.body=some c->CodeB S P Full c)(hm':∀c,fr'.mode≠.panicking c)(hx:Nx P fr l w fr' l' w' es):
 Fol P S X w2 (fun κ cs=>stepG P false (Gr fr2 l2 κ cs) w2) fr' l' w':=by
 rcases hF.modes with hm|hm
 ·refine Fol.congr (fun κ cs=>?_) (c2f (es:=es) hPk hI hP hc hF hLo hW h1 h2 ht hd hcode hm hm' fun κ cs=>?_)
  ·unfold stepG Gr;dsimp only;rw[show(ext fr2 (kk l2 κ)).mode=.run from hF.mode.trans hm]
  ·rw[<-hx κ cs];unfold stepG Gr;dsimp only;rw[show(ext fr (kk l κ)).mode=.run from hm]
 ·refine Fol.congr (fun κ cs=>?_) (b6L (es:=es) hI hPk hP hc hF hLo hW h1 h2 ht hd hm fun κ cs=>?_)
  ·unfold stepG Gr;dsimp only;rw[show(ext fr2 (kk l2 κ)).mode=.returning from hF.mode.trans hm]
  ·rw[<-hx κ cs];unfold stepG Gr;dsimp only;rw[show(ext fr (kk l κ)).mode=.returning from hm]
end
end
section
open Zn (ext low kk Gr K0 Nx Full)
open Mc (Wk Tr)
variable{S:Sit}{P:Program}{X:Tmp->Prop}
structure Rl(Ro:Nat->Prop)(O:Nat->Prop)(w w':World):Prop where
 size:w.heap.size<=w'.heap.size
 ro:∀b,Ro b->w'.heap[b]?=w.heap[b]?
 own:∀b,O b->w'.heap[b]?=w.heap[b]?
def EvB(Ro O:Nat->Prop)(B:Nat)(e:Event):Prop:=
 match e.loc with
 | .cell a=>e.sync=false/\(O a.block\/(Ro a.block/\e.write=false))/\a.block<B
 | .obj r=>e.sync=false/\(O r\/Ro r)/\e.write=false/\r<B
 | .mark m=>MarkOK m
 | _=>False
structure Gd(Ro:Nat->Prop)(O O':Nat->Prop)(w w':World)(es:Array Event):Prop where
 size:w.heap.size<=w'.heap.size
 tape:w'.tape=w.tape
 os:w'.os=w.os
 output:w'.output=w.output
 old:∀b,b<w.heap.size->¬O b->w'.heap[b]?=w.heap[b]?
 more:∀b,O b->O' b
 new:∀b,O' b->O b\/w.heap.size<=b
 in_:∀b,O' b->b<w'.heap.size
 ev:∀e∈es,EvB Ro O' w'.heap.size e
def Img(S:Sit)(O:Nat->Prop):Prop:=∀b,O b<->∃a,S.D a/\S.W a/\S.ren a=b
def End(P:Program)(X:Tmp->Prop)(A:Frame->World->Prop)(Ro:Nat->Prop)(κ:List Item)(cs:List Frame)(S0:Sit)(O:Nat->Prop)(g:Goroutine)(w2:World):Prop:=
 ∃S fr fr2 w,SLe S0 S/\(∀b,S.D b->S0.D b\/S.W b)/\g=Gr fr2 [] κ cs/\FrR S P X [] fr fr2/\WR S w w2/\Cur S w/\Img S O/\(∀a,S.D a->Ro (S.ren a)\/O (S.ren a))/\A (ext fr K0) w
theorem WR.rely{Ro O:Nat->Prop}{w w2 w3:World}(h:WR S w w2)(hc:Cur S w)(hro:∀a,S.D a->Ro (S.ren a)\/O (S.ren a))(hr:Rl Ro O w2 w3):WR S w w3:=by
 refine⟨h.inj,fun b hb hD=>?_,fun b hb hlt=>?_,h.ro⟩
 ·have:=hc b hD;omega
 ·obtain⟨o,o',h1,h2,h3⟩:=h.obj b hb hlt;refine⟨o,o',h1,?_,h3⟩;rcases hro b hb with hx|hx
  ·rw[hr.ro _ hx];exact h2
  ·rw[hr.own _ hx];exact h2
theorem WR.tp{w w2:World}(h:WR S w w2)(τ:Nat->Question->Nat)(p:Nat):WR S (Zn.tp w τ p) w2:=⟨h.inj,h.fresh,h.obj,h.ro⟩
theorem c4a{Z:Zn.Zone}{Sh:Nat->Prop}{Xu:Tmp->Prop}{A:Frame->World->Prop}(Ro:Nat->Prop)(S0:Sit)(hPk:∀Z',Zn.Le Z Z'->Zn.PQK Z' P)(hA:∀F w τ p,A F w->A F (Zn.tp w τ p))(κ:List Item)(cs:List Frame)
 {fr:Frame}{l:List Frame}{w:World}(hG:Zn.Goe P Z Sh Xu A fr l w):
 ∀(S:Sit)(fr2:Frame)(l2:List Frame)(w2:World)(O:Nat->Prop),SLe S0 S->(∀b,S.D b->S0.D b\/S.W b)->(∀f fn c,S.F f->P.funcs[f]?=some fn->fn.body=some c->CodeB S P Full c)->PQB S P->Cur S w->FrR S P X l fr fr2->a4U S P X l l2->WR S w w2->Img S O->(∀a,S.D a->Ro (S.ren a)\/O (S.ren a))->
  P.globals.size<=w.heap.size->P.globals.size<=w2.heap.size->∃T,Wk P false (Rl Ro) (Gd Ro) (End P X A Ro κ cs S0) T O (Gr fr2 l2 κ cs) w2:=by
 induction hG with
 | stop fr w hI τ p hAA=>
  intro S fr2 l2 w2 O hle hdw _ hP hc hF hLo hW hImg hro _ _;cases hLo;refine⟨.leaf,Wk.stop fun w3 hr=>⟨S,fr,fr2,w,hle,hdw,rfl,hF,hW.rely hc hro hr,hc,hImg,hro,?_⟩⟩;have:=hA _ _ w.tape w.drawn hAA;rw[Zn.tp_tp,Zn.tp_self] at this
  exact this
 | step fr l w hI F L W E h hs he k ih=>
  intro S fr2 l2 w2 O hle hdw hcode hP hc hF hLo hW hImg hro g1 g2;refine Wk.step rfl fun w3 hr=>?_;have hW3:=hW.rely hc hro hr;have hIk:=(k w3.tape w3.drawn).inv;have hm':∀c,(F w3.tape w3.drawn).mode≠.panicking c:=fun c e=>by
   rcases hIk.fr.1.mode with h|h<;>(rw[h] at e;cases e)
  obtain⟨S',fr3,l3,w4,es,e1,e2,e3,e4,e5,e6,e7,e8⟩:=c2g (P:=P) (S:=S) (X:=X) hPk (Zn.Inv.tp hI w3.tape w3.drawn) hP (w2:=w3) hc hF hLo (hW3.tp _ _) g1 (Nat.le_trans g2 hr.size) rfl rfl hcode hm' (h w3.tape w3.drawn)
  let O':Nat->Prop:=fun b=>∃a,S'.D a/\S'.W a/\S'.ren a=b
  have hOO:∀b,O b->O' b:=fun b hb=>by
   obtain⟨a,h1,h2,h3⟩:=(hImg b).1 hb;exact⟨a,e2.D a h1,e2.W a h2,(e2.ren a h1).trans h3⟩
  have hro':∀a,S'.D a->Ro (S'.ren a)\/O' (S'.ren a):=fun a ha=>by
   rcases e8.dw a ha with h1|h1
   ·rw[e2.ren a h1];exact(hro a h1).imp id (hOO _)
   ·exact .inr ⟨a,ha,h1,rfl⟩
  obtain⟨T,hT⟩:=ih w3.tape w3.drawn S' fr3 l3 w4 O' (hle.trans e2) (fun b hb=>(e8.dw b hb).elim (fun h=>(hdw b h).imp id (e2.W b)) .inr) (fun f fn c hf h1 h2=>(hcode f fn c (e2.F▸hf) h1 h2).mono e2) e3 e4 e5 e6 e7 (fun b=>Iff.rfl) hro' (Nat.le_trans g1 (hs _ _)) (Nat.le_trans (Nat.le_trans g2 hr.size) e8.size);refine⟨_,w4,es,O',T,e1 κ cs,⟨e8.size,e8.tape,e8.os,e8.output,fun b hb hn=>e8.old b hb fun a h1 h2 h3=>hn ((hImg b).2 ⟨a,h1,h2,h3⟩),hOO,fun b hb=>?_,fun b hb=>?_,fun e he=>?_⟩,hT⟩
  ·obtain⟨a,h1,h2,rfl⟩:=hb;rcases e8.new a h1 h2 with⟨h3,h4⟩|h3
   ·exact .inl ((hImg _).2 ⟨a,h4,h3,(e2.ren a h4).symm⟩)
   ·exact .inr h3
  ·obtain⟨a,h1,h2,rfl⟩:=hb;obtain⟨_,_,_,h3,_⟩:=e7.obj a h1 (e4 a h1);exact lt_of_some h3
  ·have:=e8.ev e he;obtain⟨loc,wr,sy⟩:=e
   cases loc with
   | cell a=>
    obtain⟨h1,⟨b,h2,h3,h4⟩,h5⟩:=this;refine⟨h1,?_,h5⟩
    cases wr with
    | true=>exact .inl ⟨b,h2,h4 rfl,h3⟩
    | false=>exact(h3▸hro' b h2).symm.imp id fun h=>⟨h,rfl⟩
   | obj r=>
    obtain⟨h1,⟨b,h2,h3⟩,h4,h5⟩:=this
    exact⟨h1,(h3▸hro' b h2).symm,h4,h5⟩
   | mark m=>exact this
   | _=>exact(this:False).elim
end
end Go.Bi
namespace Go.Mw
section
open Go.Conc
open Mc
set_option linter.unusedSectionVars false
theorem b5k{γ:Type}{P:Program}{main:Bool}{R R':γ->World->World->Prop}{D D':γ->γ->World->World->Array Event->Prop}{Stop Stop':γ->Goroutine->World->Prop}(I:γ->World->Prop)
 (hI:∀x w w',I x w->R' x w w'->I x w')(hR:∀x w w',I x w->R' x w w'->R x w w')(hD:∀x x' w w' es,I x w->D x x' w w' es->D' x x' w w' es/\I x' w')(hS:∀x g w,I x w->Stop x g w->Stop' x g w):
 ∀{T:Tr}{x:γ}{g:Goroutine}{w:World},I x w->Wk P main R D Stop T x g w->Wk P main R' D' Stop' T x g w:=by
 intro T
 induction T with
 | leaf=>exact fun hi h w₁ r=>hS _ _ _ (hI _ _ _ hi r) (h w₁ (hR _ _ _ hi r))
 | node f ih=>
  intro x g w hi h;rcases h with h|⟨hs,h⟩
  ·exact .inl fun w₁ r=>hS _ _ _ (hI _ _ _ hi r) (h w₁ (hR _ _ _ hi r))
  ·refine .inr ⟨hs,fun w₁ r=>?_⟩;obtain⟨g',w',es,x',h1,h2,h3⟩:=h w₁ (hR _ _ _ hi r);obtain⟨h4,h5⟩:=hD _ _ _ _ _ (hI _ _ _ hi r) h2;exact⟨g',w',es,x',h1,h4,ih _ h5 h3⟩
variable{Z:Pz}{i bx:Nat}{O:Nat->Prop}{Stop:(Nat->Prop)->Goroutine->World->Prop}{b:Frame}{a:Act}{k:List Item}{cs:List Frame}{w w₁ w':World}{g g':Goroutine}
abbrev Ww(Z:Pz)(i bx:Nat)(Stop:(Nat->Prop)->Goroutine->World->Prop):Tr->(Nat->Prop)->Goroutine->World->Prop:=Wk Z.P false (RW Z i bx) (DW Z i bx) Stop
def Nw(Z:Pz)(O:Nat->Prop)(w:World):Prop:=∀b,O b->Z.L0<=b/\b<w.heap.size
theorem Nw.rely(h:Nw Z O w)(r:RW Z i bx O w w₁):Nw Z O w₁:=fun b hb=>⟨(h b hb).1,Nat.lt_of_lt_of_le (h b hb).2 r.size⟩
theorem a0u(h:Nw Z O w){es:Array Event}(he:∀e∈es,EvW Z i bx O w.heap.size e):DW Z i bx O O w w es:=
 ⟨Nat.le_refl _,rfl,rfl,rfl,fun _ _ _ _ _=>rfl,id,id,fun _ _=>rfl,fun _ h=>h,fun _ h=>.inl h,fun b hb=>(h b hb).2,he⟩
theorem c3l(h:∃T,Ww Z i bx Stop T O g w)(r:RW Z i bx O w w₁):∃T,Ww Z i bx Stop T O g w₁:=let ⟨T,h⟩:=h;⟨T,Wk.rely (R:=RW Z i bx) (fun _ _ _ _ h1 h2=>RW.trans Z h1 h2) h r⟩
theorem a1Q(hN:Nw Z O w)(hrun:g.status=.running)(h:∀w,stepG Z.P false g w=.go g' w)(h':∃T,Ww Z i bx Stop T O g' w):∃T,Ww Z i bx Stop T O g w:=
 Wk.step hrun fun w₁ r=>let ⟨T,hT⟩:=c3l h' r;⟨g',w₁,#[],O,T,h w₁,a0u (hN.rely r) (by simp),hT⟩
def Rd1(Z:Pz)(bx:Nat)(b:Nat):Prop:=Z.Eld b\/b=bx
structure Kp(Z:Pz)(bx:Nat)(w0 w:World):Prop where
 size:w0.heap.size<=w.heap.size
 eld:∀b,Z.Eld b->w.heap[b]?=w0.heap[b]?
 box:w.heap[bx]?=w0.heap[bx]?
 al:a0D Z w0->a0D Z w
 cb:a0t Z w0->a0t Z w
 live:ConcN.WgLive Z.ty Z.Wg w0->ConcN.WgLive Z.ty Z.Wg w
theorem b3D(hZ:a0f Z){StopB:(Nat->Prop)->Goroutine->World->Prop}(hN:Nw Z O w)(hL:Z.L0<=w.heap.size)(hb:¬O bx/\bx<w.heap.size/\bx≠Z.Al/\bx≠Z.Cb)(h:∃T,Wk Z.P false (Bi.Rl (Rd1 Z bx)) (Bi.Gd (Rd1 Z bx)) StopB T O g w)
 (hk:∀O g w',StopB O g w'->Nw Z O w'->¬O bx->Kp Z bx w w'->∃T,Ww Z i bx Stop T O g w'):∃T,Ww Z i bx Stop T O g w:=by
 obtain⟨T,hT⟩:=h;have h1:Ww Z i bx (fun O g w'=>StopB O g w'/\Nw Z O w'/\¬O bx/\Kp Z bx w w') T O g w:=by
  refine b5k (fun O w'=>Nw Z O w'/\Z.L0<=w'.heap.size/\(¬O bx/\bx<w'.heap.size)/\Kp Z bx w w') ?_ ?_ ?_ ?_ ⟨hN,hL,⟨hb.1,hb.2.1⟩,Nat.le_refl _,fun _ _=>rfl,rfl,id,id,id⟩ hT
  ·exact fun O w1 w' h r=>⟨h.1.rely r,Nat.le_trans h.2.1 r.size,⟨h.2.2.1.1,Nat.lt_of_lt_of_le h.2.2.1.2 r.size⟩,Nat.le_trans h.2.2.2.size r.size,fun b hb=>(r.eld b hb).trans (h.2.2.2.eld b hb),r.box.trans h.2.2.2.box,r.al∘h.2.2.2.al,r.cb∘h.2.2.2.cb,r.live∘h.2.2.2.live⟩
  ·exact fun O w w' _ r=>⟨r.size,fun b hb=>hb.elim (r.eld b) fun e=>e▸r.box,r.own⟩
  ·intro O O' w1 w' es ⟨hN,hL,hO,hK⟩ d;have hnA:¬O Z.Al:=fun h=>by have:=(hN _ h).1;have:=hZ.A0;omega
   have hnC:¬O Z.Cb:=fun h=>by have:=(hN _ h).1;have:=hZ.C0;omega
   have hnW:¬O Z.Wg:=fun h=>by have:=(hN _ h).1;have:=hZ.W0;omega
   have eA:=d.old Z.Al (Nat.lt_of_lt_of_le hZ.A0 hL) hnA;have eC:=d.old Z.Cb (Nat.lt_of_lt_of_le hZ.C0 hL) hnC;have eW:=d.old Z.Wg (Nat.lt_of_lt_of_le hZ.W0 hL) hnW;have hN':Nw Z O' w':=fun b hb=>⟨(d.new b hb).elim (fun h=>(hN b h).1) fun h=>Nat.le_trans hL h,d.in_ b hb⟩;have fal:a0D Z w1->a0D Z w':=fun⟨v,h⟩=>⟨v,eA.trans h⟩;have fcb:a0t Z w1->a0t Z w':=fun⟨c,h,h'⟩=>⟨c,eC.trans h,h'⟩;refine⟨⟨d.size,d.tape,d.os,d.output,fun b h1 h2 _ _=>d.old b h1 h2,fal,fcb,?_,d.more,d.new,d.in_,?_⟩,hN',Nat.le_trans hL d.size,⟨fun h=>?_,Nat.lt_of_lt_of_le hO.2 d.size⟩,Nat.le_trans hK.size d.size,fun b hb=>?_,(d.old bx hO.2 hO.1).trans hK.box,fal∘hK.al,fcb∘hK.cb,fun h=>?_⟩
   ·intro k _;simp only[World.cell?,eC]
   ·intro e he;have:=d.ev e he;obtain⟨loc,wr,sy⟩:=e
    cases loc with
    | cell a=>
     obtain⟨h1,h2,h3⟩:=this
     exact⟨h3,.inr ⟨h1,h2.elim .inl fun h=>.inr (.inr h)⟩⟩
    | obj r=>
     obtain⟨h1,h2,h3,h4⟩:=this
     exact⟨h4,h1,h2.elim .inl fun h=>.inr ⟨h,h3⟩⟩
    | mark m=>exact this
    | _=>exact(this:False).elim
   ·rcases d.new bx h with h|h
    ·exact hO.1 h
    ·have:=hO.2;omega
   ·have h1:=(hZ.eld b hb).1;exact(d.old b (Nat.lt_of_lt_of_le h1 hL) fun h=>by have:=(hN _ h).1;omega).trans (hK.eld b hb)
   ·obtain⟨st,sm,h2⟩:=hK.live h;exact⟨st,sm,eW.trans h2⟩
  ·exact fun O g w1 h s=>⟨s,h.1,h.2.2.1.1,h.2.2.2⟩
 exact Wk.bind (R:=RW Z i bx) (RW.refl Z i bx) (fun _ _ _ _ h1 h2=>RW.trans Z h1 h2) h1 fun O g w'⟨h,hn,hb,hk'⟩=>hk O g w' h hn hb hk'
end
section
open Go.Conc Go.RowKit Go.Conc.Lib Go.ConcR.Gen Go.ConcN.Gen
open Go.ConcR (KK wgBlock WgAt stA smA rd wr mk Payload DC0)
open Go.ConcN (WgLive Has AtR0 DWs)
variable[Payload]{L:WgLink}{P:Program}
def c1m(P:Program)(g:Goroutine)(w:World):Prop:=∃g',stepG P false g w=.go g' w #[mk .disable]
def c47(P:Program)(ty:TypeId)(Wg C n Low k:Nat)(g:Goroutine)(w:World):Prop:=
 ∃g',stepG P false g w=.go g' w #[mk (.releaseMerge (stA Wg))]/\∃m,Goes P false (ConcN.RW ty Wg C n Low (k - 1)) DC0 (c1m P) m g' w
theorem X0{ty:TypeId}{Wg C n Low i:Nat}(w:World):ConcN.RW ty Wg C n Low i w w:=⟨fun _ _ _ _=>rfl,id,id,rfl⟩
theorem a6V{ty:TypeId}{Wg C n Low i:Nat}(a b c:World)(h:ConcN.RW ty Wg C n Low i a b)(k:ConcN.RW ty Wg C n Low i b c):ConcN.RW ty Wg C n Low i a c:=
 ⟨fun b h1 h2 h3=>(k.low b h1 h2 h3).trans (h.low b h1 h2 h3),k.live∘h.live,k.pay∘h.pay,k.cell.trans h.cell⟩
section
variable{ty:TypeId}{Wg C n Low k:Nat}{val:Value}{Own Rd:Nat->Loc->Prop}
theorem c1n:∀(m n1:Nat)(g:Goroutine)(w:World),Goes P false (ConcN.RW ty Wg C n Low (k - 1)) (DWs Wg Own Rd C n k) (AtR0 P ty Wg C n Low k val) n1 g w->Goes P false (ConcN.RW ty Wg C n Low (k - 1)) DC0 (c1m P) m g w->False:=by
 have base:∀(n1:Nat)(g:Goroutine)(w:World),Goes P false (ConcN.RW ty Wg C n Low (k - 1)) (DWs Wg Own Rd C n k) (AtR0 P ty Wg C n Low k val) n1 g w->c1m P g w->False:=by
  rintro n1 g w h ⟨g',e⟩;have stop:AtR0 P ty Wg C n Low k val g w->False:=by
   rintro⟨_,_,g'',e',_⟩;rw[e] at e';injection e' with _ _ e3;have:=congrArg (fun x=>x[0]?) e3;simp[mk] at this
  cases n1 with
  | zero=>exact stop (h w (X0 w))
  | succ n1=>
   rcases h with h|⟨_,h⟩
   ·exact stop (h w (X0 w))
   ·have:=h w (X0 w);rw[e] at this;exact(this.1.2 (mk .disable) (by simp)).2.1 rfl
 intro m
 induction m with
 | zero=>exact fun n1 g w h hk=>base n1 g w h (hk w (X0 w))
 | succ m ih=>
  intro n1 g w h hk;rcases hk with hk|⟨_,hk⟩
  ·exact base n1 g w h (hk w (X0 w))
  ·have k1:=hk w (X0 w);obtain⟨g',w',es,e,⟨e1,e2⟩,kn⟩:=goes_elim k1;subst e1;subst e2;have stop:AtR0 P ty Wg C n Low k val g w'->False:=by
    rintro⟨_,_,g'',e',_⟩;rw[e] at e';injection e' with _ _ e3;have:=congrArg (fun x=>x.size) e3;simp at this
   cases n1 with
   | zero=>exact stop (h w' (X0 w'))
   | succ n1=>
    rcases h with h|⟨_,h⟩
    ·exact stop (h w' (X0 w'))
    ·have:=h w' (X0 w');rw[e] at this;exact ih n1 g' w' this.2 kn
theorem b8o:∀(m n1:Nat)(g:Goroutine)(w:World),Goes P false (ConcN.RW ty Wg C n Low (k - 1)) DC0 (c47 P ty Wg C n Low k) m g w->Goes P false (ConcN.RW ty Wg C n Low (k - 1)) (DWs Wg Own Rd C n k) (AtR0 P ty Wg C n Low k val) n1 g w->
 Goes P false (ConcN.RW ty Wg C n Low (k - 1)) DC0 (AtR0 P ty Wg C n Low k val) m g w:=by
 have base:∀(n1:Nat)(g:Goroutine)(w:World),Goes P false (ConcN.RW ty Wg C n Low (k - 1)) (DWs Wg Own Rd C n k) (AtR0 P ty Wg C n Low k val) n1 g w->c47 P ty Wg C n Low k g w->AtR0 P ty Wg C n Low k val g w:=by
  rintro n1 g w h ⟨g',e,m,hm⟩
  cases n1 with
  | zero=>exact h w (X0 w)
  | succ n1=>
   rcases h with h|⟨_,h⟩
   ·exact h w (X0 w)
   ·have:=h w (X0 w);rw[e] at this;exact(c1n m n1 g' w this.2 hm).elim
 intro m
 induction m with
 | zero=>exact fun n1 g w hk h w₁ r=>base n1 g w₁ (h.rely a6V r) (hk w₁ r)
 | succ m ih=>
  intro n1 g w hk h;rcases hk with hk|⟨hs,hk⟩
  ·exact .inl fun w₁ r=>base n1 g w₁ (h.rely a6V r) (hk w₁ r)
  ·refine .inr ⟨hs,fun w₁ r=>?_⟩;have k1:=hk w₁ r;obtain⟨g',w',es,e,⟨e1,e2⟩,kn⟩:=goes_elim k1;subst e1;subst e2;have h1:=h.rely a6V r;have stop:AtR0 P ty Wg C n Low k val g w'->False:=by
    rintro⟨_,_,g'',e',_⟩;rw[e] at e';injection e' with _ _ e3;have:=congrArg (fun x=>x.size) e3;simp at this
   rw[e]
   cases n1 with
   | zero=>exact(stop (h1 w' (X0 w'))).elim
   | succ n1=>
    rcases h1 with h1|⟨_,h1⟩
    ·exact(stop (h1 w' (X0 w'))).elim
    ·have:=h1 w' (X0 w');rw[e] at this;exact⟨⟨rfl,rfl⟩,ih n1 g' w' kn this.2⟩
end
theorem c3e(H:WgLib P L){Wg C n Low k:Nat}{val:Value}{c:Frame}{cs:List Frame}(w:World)(hK:WgLive L.tWg Wg w/\Has C (k - 1) val w):
 Goes P false (ConcN.RW L.tWg Wg C n Low (k - 1)) DC0 (c47 P L.tWg Wg C n Low k) 60 (G ((baseD L.done).at ⟨#[.pointer (some ⟨Wg,0,none⟩),undef,undef,undef],[]⟩ [.code (body_done L)]) (c::cs)) w:=by
 lib_facts;simp only[body_done,body_add,doneFn,addFn,Option.getD_some];u_reg kn_rely hK
 u_op kn_rely hK
 u_in kn_rely hK
 refine goes_call rfl rfl (by k_ne) rfl H.f_add (nm_add L) rfl ⟨by u_nil,?_⟩;walk_nrmf addFn
 iterate 12 (first|u_c stepG_seq kn_rely hK|u_reg kn_rely hK|u_c stepG_region_end kn_rely hK|u_cond true kn_rely hK|u_conv H.underlying_tWgP H.room_tWg (WgLive.cell0 hK.1).choose_spec kn_rely hK|u_op kn_rely hK)
 refine Goes.stop (fun w₁ h₁=>?_);replace hK:=kn_rely hK h₁;clear h₁;refine⟨_,stepG_markAt .releaseMerge (by simp) rfl rfl (by k_ne) rfl H.f_relMerge (x_relMerge_n L) (x_relMerge_b L) (x_relMerge_x L) (x_relMerge_f L) (by simp[Act.eval,stA]),10,?_⟩;walk_nrm;iterate 3 (first|u_c stepG_seq kn_rely hK|u_c stepG_region_end kn_rely hK|u_reg kn_rely hK)
 exact Goes.stop (fun w₁ h₁=>⟨_,stepG_mark0 .disable (by simp) rfl rfl (by k_ne) rfl H.f_disable (x_disable_n L) (x_disable_b L) (x_disable_x L) (x_disable_f L)⟩)
theorem b5g(H:WgLib P L){Wg C n Low k:Nat}{val:Value}{c:Frame}{cs:List Frame}{qt:Nat}(hcm:c.mode=.returning)(hT:QuitsD P qt 0 (G c cs))(w:World)(hK:WgLive L.tWg Wg w/\Has C (k - 1) val w):
 Goes P false (ConcN.RW L.tWg Wg C n Low (k - 1)) DC0 (AtR0 P L.tWg Wg C n Low k val) 60 (G ((baseD L.done).at ⟨#[.pointer (some ⟨Wg,0,none⟩),undef,undef,undef],[]⟩ [.code (body_done L)]) (c::cs)) w:=
 b8o 60 23 _ _ (c3e (val:=val) H w hK) (doneN (Own:=fun _ _=>False) (Rd:=fun _ _=>False) H hcm hT w hK)
end
end Go.Mw
namespace Go.Proofs.YtgpbhjjajpbeeaaGreatDoor
section
open Go.RowKit Go.Conc Go.Conc.Lib Go.Mw Go.Mc
open Go.ConcN (WgLive)
set_option linter.unusedSectionVars false
section
variable(Z:Pz)(i bx:Nat)(O:Nat->Prop)
def D2(w w':World)(es:Array Event):Prop:=Nw Z O w->DW Z i bx O O w w' es
theorem O0:Terms (RW Z i bx O) (D2 Z i bx O):=⟨fun _ _ _ h k=>RW.trans Z h k,fun w hN=>a0u hN (by simp)⟩
theorem c5Z:LetsDraw (D2 Z i bx O):=fun w hN=>⟨Nat.le_refl _,rfl,rfl,rfl,fun _ _ _ _ _=>rfl,id,id,fun _ _=>rfl,fun _ h=>h,fun _ h=>.inl h,fun b hb=>(hN b hb).2,by simp⟩
theorem c6x(w:World):RW Z i bx O w {w with drawn:=w.drawn+1}:=⟨Nat.le_refl _,fun _ _=>rfl,rfl,fun _ _=>rfl,id,id,id,fun _ _=>rfl⟩
structure HW(w0:World)(mb sx sb ic c1 c2:Nat)(id:Int)(w:World):Prop where
 nw:Nw Z O w
 grow:w0.heap.size<=w.heap.size
 own:∀b,O b->w.heap[b]?=w0.heap[b]?
 eld:Z.Eld mb/\Z.Eld sx/\Z.Eld sb/\Z.Eld ic/\Z.Eld Z.e0
 lt:i<Z.n/\Z.n<=c1/\Z.n<=c2/\Z.n<2147483648
 box:w.heap[bx]?=some (.cells #[.int .i64 i] 3)
 sx:w.cell? ⟨sx,0,none⟩=some (.pointer (some ⟨sb,0,none⟩))
 seg:w.cell? ⟨sb,3,none⟩=some (.slice (some ⟨Z.Cb,0,none⟩) Z.n c1)
 ids:w.cell? ⟨mb,1,none⟩=some (.slice (some ⟨ic,0,none⟩) Z.n c2)
 id:w.cell? ⟨ic,i,none⟩=some (.int .i64 id)
 cb:a0t Z w
 al:a0D Z w
 live:WgLive Z.ty Z.Wg w
 e0:w.cell? ⟨Z.e0,0,none⟩=some Z.v0
variable{Z i bx O}{w0:World}{mb sx sb ic c1 c2:Nat}{id:Int}{w w₁:World}
theorem HW.rely(h:HW Z i bx O w0 mb sx sb ic c1 c2 id w)(r:RW Z i bx O w w₁):HW Z i bx O w0 mb sx sb ic c1 c2 id w₁:=by
 obtain⟨e1,e2,e3,e4,e5⟩:=h.eld;exact⟨h.nw.rely r,Nat.le_trans h.grow r.size,fun b hb=>(r.own b hb).trans (h.own b hb),h.eld,h.lt,r.box.trans h.box,(ConcN.cell_of_block (r.eld _ e2) _).trans h.sx,(ConcN.cell_of_block (r.eld _ e3) _).trans h.seg,(ConcN.cell_of_block (r.eld _ e1) _).trans h.ids,(ConcN.cell_of_block (r.eld _ e4) _).trans h.id,r.cb h.cb,r.al h.al,r.live h.live,(ConcN.cell_of_block (r.eld _ e5) _).trans h.e0⟩
theorem HW.boxc(h:HW Z i bx O w0 mb sx sb ic c1 c2 id w):w.cell? ⟨bx,0,none⟩=some (.int .i64 i):=by simp[World.cell?,h.box]
theorem lt_of_cell{w:World}{a:Addr}{v:Value}(h:w.cell? a=some v):a.block<w.heap.size:=by
 unfold World.cell? at h
 cases e:w.heap[a.block]? with
 | none=>rw[e] at h;cases h
 | some o=>exact Bi.lt_of_some e
theorem evR{w:World}{b k:Nat}{v:Value}(h:w.cell? ⟨b,k,none⟩=some v)(he:Z.Eld b\/b=bx):EvW Z i bx O w.heap.size ⟨.cell ⟨b,k,none⟩,false,false⟩:=⟨lt_of_cell h,.inr ⟨rfl,.inr (.inr ⟨he,rfl⟩)⟩⟩
end
def QW2(Z:Pz)(i bx:Nat)(O:Nat->Prop)(w0:World)(V5:Value)(mb sx sb ic c1 c2:Nat)(id:Int)(u:Value)(ds:List Deferred):Exit->Act->World->Prop
 | .normal,a,w=>HW Z i bx O w0 mb sx sb ic c1 c2 id w/\w.cell? ⟨Z.Cb,2*i,none⟩=some (.int .i64 id)/\w.cell? ⟨Z.Cb,2*i+1,none⟩=some u/\a.defers=ds/\a.tmps.size=29/\a.tmps[5]?=some V5/\a.tmps[6]?=some u
 | _,_,_=>False
theorem QW2.rely{Z:Pz}{i bx:Nat}{O:Nat->Prop}{w0:World}{V5:Value}{mb sx sb ic c1 c2:Nat}{id:Int}{u:Value}{ds:List Deferred}{a:Act}{w w₁:World}(h:QW2 Z i bx O w0 V5 mb sx sb ic c1 c2 id u ds .normal a w)(r:RW Z i bx O w w₁):QW2 Z i bx O w0 V5 mb sx sb ic c1 c2 id u ds .normal a w₁:=by
 obtain⟨h1,h2,h3,h4⟩:=h;exact⟨h1.rely r,(r.cell _ (.inl rfl)).trans h2,(r.cell _ (.inr rfl)).trans h3,h4⟩
theorem a6y(w:World)(a:Addr)(v:Value){b:Nat}(h:a.block≠b):(w.setCell a v).heap[b]?=w.heap[b]?:=by simp[World.setCell,Array.getElem?_modify,h]
theorem a8M(w:World)(a:Addr)(v:Value):(w.setCell a v).heap.size=w.heap.size:=by simp[World.setCell]
theorem b4q{Z:Pz}(w:World)(i:Nat)(v0 v1:Value)(hcb:a0t Z w)(hi:i<Z.n):
 (∀b,b≠Z.Cb->((w.setCell ⟨Z.Cb,i*2,none⟩ v0).setCell ⟨Z.Cb,i*2+1,none⟩ v1).heap[b]?=w.heap[b]?)/\a0t Z ((w.setCell ⟨Z.Cb,i*2,none⟩ v0).setCell ⟨Z.Cb,i*2+1,none⟩ v1)/\
 (∀k,¬myCell i k->((w.setCell ⟨Z.Cb,i*2,none⟩ v0).setCell ⟨Z.Cb,i*2+1,none⟩ v1).cell? ⟨Z.Cb,k,none⟩=w.cell? ⟨Z.Cb,k,none⟩)/\
 ((w.setCell ⟨Z.Cb,i*2,none⟩ v0).setCell ⟨Z.Cb,i*2+1,none⟩ v1).cell? ⟨Z.Cb,2*i,none⟩=some v0/\((w.setCell ⟨Z.Cb,i*2,none⟩ v0).setCell ⟨Z.Cb,i*2+1,none⟩ v1).cell? ⟨Z.Cb,2*i+1,none⟩=some v1:=by
 obtain⟨cs,hcs,hsz⟩:=hcb;have h1:(w.setCell ⟨Z.Cb,i*2,none⟩ v0).heap[Z.Cb]?=some (.cells (cs.setIfInBounds (i*2) v0) Z.tCb):=by simp[World.setCell,Array.getElem?_modify,hcs]
 have h2:((w.setCell ⟨Z.Cb,i*2,none⟩ v0).setCell ⟨Z.Cb,i*2+1,none⟩ v1).heap[Z.Cb]?=some (.cells ((cs.setIfInBounds (i*2) v0).setIfInBounds (i*2+1) v1) Z.tCb):=by
  generalize w.setCell ⟨Z.Cb,i*2,none⟩ v0=w1 at h1;simp[World.setCell,Array.getElem?_modify,h1]
 refine⟨fun b hb=>?_,⟨_,h2,by simp[hsz]⟩,fun k hk=>?_,?_,?_⟩
 ·rw[a6y _ _ _ (Ne.symm hb),a6y _ _ _ (Ne.symm hb)]
 ·unfold myCell at hk;have e1:i*2+1≠k:=by omega
  have e2:i*2≠k:=by omega
  simp only[World.cell?,h2,hcs];simp[Array.getElem?_setIfInBounds_ne e1,Array.getElem?_setIfInBounds_ne e2]
 ·simp only[World.cell?,h2];have e1:i*2+1≠2*i:=by omega
  have e2:i*2=2*i:=by omega
  simp only[Option.isSome_none,Bool.false_eq_true,if_false,Array.getElem?_setIfInBounds_ne e1];rw[e2,Array.getElem?_setIfInBounds_self_of_lt (by omega)]
 ·simp only[World.cell?,h2];have e2:i*2+1=2*i+1:=by omega
  simp only[Option.isSome_none,Bool.false_eq_true,if_false,e2];rw[Array.getElem?_setIfInBounds_self_of_lt (by simp;omega)]
noncomputable def b4r:Code:=Code.head (a1I 2)
abbrev c50:Oper:={dst:=none,op:=.store 154 (.tmp 25) (.tmp 24),type:=0,pos:= "keydir.go:122",after:=#[{on:=12,ground:=.data},{on:=11,ground:=.data},{on:=0,ground:=.phase},{on:=1,ground:=.phase},{on:=2,ground:=.phase},{on:=3,ground:=.phase},{on:=4,ground:=.phase},{on:=5,ground:=.phase},{on:=6,ground:=.phase},{on:=7,ground:=.phase},{on:=8,ground:=.phase},{on:=9,ground:=.phase},{on:=10,ground:=.phase},{on:=11,ground:=.phase}],guard:=none}
theorem c52{Z:Pz}{i bx:Nat}{O:Nat->Prop}(w0:World)(hZ:a0f Z)(htC:(3:TypeId)≠Z.tCb)(V0 V2 V5 x7 x8 x9 x10 x11 x12:Value)(mb sx sb ic c1 c2:Nat)(id:Int)(ds:List Deferred)(ua:Option Addr)(um uc:Nat):∃N,∀w,HW Z i bx O w0 mb sx sb ic c1 c2 id w->
 b4r.wpC Tryz.prog false (RW Z i bx O) (D2 Z i bx O) 59 N (QW2 Z i bx O w0 V5 mb sx sb ic c1 c2 id (.slice ua um uc) ds)
  ⟨#[V0,.pointer (some ⟨bx,0,none⟩),V2,.pointer (some ⟨mb,0,none⟩),.pointer (some ⟨sx,0,none⟩),V5,.slice ua um uc,x7,x8,x9,x10,x11,x12,undef,undef,undef,undef,undef,undef,undef,undef,undef,undef,undef,undef,undef,undef,undef,undef],ds⟩ w:=by
 unfold b4r a1I;simp only[Code.behind,Code.head,Tryz.f59,Option.getD_some];co_apply Exists.intro
 intro w hF;have hi:=hF.lt;obtain⟨h1,h2,h3,h5⟩:=hi;have k1:(i:Int)<(Z.n:Int):=by omega
 have k0:(0:Int)<=(i:Int):=by omega
 co_held (O0 Z i bx O) (c5Z Z i bx O) (c6x Z i bx O) (HW Z i bx O w0 mb sx sb ic c1 c2 id) HW.rely hF
 co_applyP anyCH_take (O0 Z i bx O) (fun _ _ h r=>HW.rely h r) (fun _ _ _ h r=>QW2.rely h r) (i:=0) rfl (by first|kernel_rfl|decide +kernel) (by first|kernel_rfl|decide +kernel) (by first|kernel_rfl|decide +kernel) (.inl ⟨by rfl,fun _ hw=>⟨run_eq_of ?run0,?guar0⟩⟩) hF ?rest0
 case run0=>
  intro K hK;have hc:=hw.sx;go_simp
  exact hK
 case guar0=>
  have hc:=hw.sx;refine fun hN=>a0u hN ?_;co_evs (exact evR hw.sx (.inl hw.eld.2.1))
 try walk_nrm
 co_applyP anyCH_take (O0 Z i bx O) (fun _ _ h r=>HW.rely h r) (fun _ _ _ h r=>QW2.rely h r) (i:=1) rfl (by first|kernel_rfl|decide +kernel) (by first|kernel_rfl|decide +kernel) (by first|kernel_rfl|decide +kernel) (.inl ⟨by rfl,fun _ hw=>⟨run_eq_of ?run1,?guar1⟩⟩) hF ?rest1
 case run1=>
  intro K hK;skip
  go_simp
  exact hK
 case guar1=>
  skip
  co_still (O0 Z i bx O)
 try walk_nrm
 co_applyP anyCH_take (O0 Z i bx O) (fun _ _ h r=>HW.rely h r) (fun _ _ _ h r=>QW2.rely h r) (i:=2) rfl (by first|kernel_rfl|decide +kernel) (by first|kernel_rfl|decide +kernel) (by first|kernel_rfl|decide +kernel) (.inl ⟨by rfl,fun _ hw=>⟨run_eq_of ?run2,?guar2⟩⟩) hF ?rest2
 case run2=>
  intro K hK;skip
  go_simp
  exact hK
 case guar2=>
  skip
  co_still (O0 Z i bx O)
 try walk_nrm
 co_applyP anyCH_take (O0 Z i bx O) (fun _ _ h r=>HW.rely h r) (fun _ _ _ h r=>QW2.rely h r) (i:=3) rfl (by first|kernel_rfl|decide +kernel) (by first|kernel_rfl|decide +kernel) (by first|kernel_rfl|decide +kernel) (.inl ⟨by rfl,fun _ hw=>⟨run_eq_of ?run3,?guar3⟩⟩) hF ?rest3
 case run3=>
  intro K hK;have hc:=hw.seg;go_simp
  exact hK
 case guar3=>
  have hc:=hw.seg;refine fun hN=>a0u hN ?_;co_evs (exact evR hw.seg (.inl hw.eld.2.2.1))
 try walk_nrm
 co_applyP anyCH_take (O0 Z i bx O) (fun _ _ h r=>HW.rely h r) (fun _ _ _ h r=>QW2.rely h r) (i:=4) rfl (by first|kernel_rfl|decide +kernel) (by first|kernel_rfl|decide +kernel) (by first|kernel_rfl|decide +kernel) (.inl ⟨by rfl,fun _ hw=>⟨run_eq_of ?run4,?guar4⟩⟩) hF ?rest4
 case run4=>
  intro K hK;have hc:=hw.boxc;go_simp
  exact hK
 case guar4=>
  have hc:=hw.boxc;refine fun hN=>a0u hN ?_;co_evs (exact evR hw.boxc (.inr rfl))
 try walk_nrm
 co_applyP anyCH_take (O0 Z i bx O) (fun _ _ h r=>HW.rely h r) (fun _ _ _ h r=>QW2.rely h r) (i:=5) rfl (by first|kernel_rfl|decide +kernel) (by first|kernel_rfl|decide +kernel) (by first|kernel_rfl|decide +kernel) (.inl ⟨by rfl,fun _ hw=>⟨run_eq_of ?run5,?guar5⟩⟩) hF ?rest5
 case run5=>
  intro K hK;skip
  go_simp
  exact hK
 case guar5=>
  skip
  co_still (O0 Z i bx O)
 try walk_nrm
 co_applyP anyCH_take (O0 Z i bx O) (fun _ _ h r=>HW.rely h r) (fun _ _ _ h r=>QW2.rely h r) (i:=6) rfl (by first|kernel_rfl|decide +kernel) (by first|kernel_rfl|decide +kernel) (by first|kernel_rfl|decide +kernel) (.inl ⟨by rfl,fun _ hw=>⟨run_eq_of ?run6,?guar6⟩⟩) hF ?rest6
 case run6=>
  intro K hK;have hc:=hw.ids;go_simp
  exact hK
 case guar6=>
  have hc:=hw.ids;refine fun hN=>a0u hN ?_;co_evs (exact evR hw.ids (.inl hw.eld.1))
 try walk_nrm
 co_applyP anyCH_take (O0 Z i bx O) (fun _ _ h r=>HW.rely h r) (fun _ _ _ h r=>QW2.rely h r) (i:=7) rfl (by first|kernel_rfl|decide +kernel) (by first|kernel_rfl|decide +kernel) (by first|kernel_rfl|decide +kernel) (.inl ⟨by rfl,fun _ hw=>⟨run_eq_of ?run7,?guar7⟩⟩) hF ?rest7
 case run7=>
  intro K hK;have hc:=hw.boxc;go_simp
  exact hK
 case guar7=>
  have hc:=hw.boxc;refine fun hN=>a0u hN ?_;co_evs (exact evR hw.boxc (.inr rfl))
 try walk_nrm
 co_applyP anyCH_take (O0 Z i bx O) (fun _ _ h r=>HW.rely h r) (fun _ _ _ h r=>QW2.rely h r) (i:=8) rfl (by first|kernel_rfl|decide +kernel) (by first|kernel_rfl|decide +kernel) (by first|kernel_rfl|decide +kernel) (.inl ⟨by rfl,fun _ hw=>⟨run_eq_of ?run8,?guar8⟩⟩) hF ?rest8
 case run8=>
  intro K hK;skip
  go_simp
  exact hK
 case guar8=>
  skip
  co_still (O0 Z i bx O)
 try walk_nrm
 co_applyP anyCH_take (O0 Z i bx O) (fun _ _ h r=>HW.rely h r) (fun _ _ _ h r=>QW2.rely h r) (i:=9) rfl (by first|kernel_rfl|decide +kernel) (by first|kernel_rfl|decide +kernel) (by first|kernel_rfl|decide +kernel) (.inl ⟨by rfl,fun _ hw=>⟨run_eq_of ?run9,?guar9⟩⟩) hF ?rest9
 case run9=>
  intro K hK;have hc:=hw.id;go_simp
  exact hK
 case guar9=>
  have hc:=hw.id;refine fun hN=>a0u hN ?_;co_evs (exact evR hw.id (.inl hw.eld.2.2.2.1))
 try walk_nrm
 co_applyP anyCH_take (O0 Z i bx O) (fun _ _ h r=>HW.rely h r) (fun _ _ _ h r=>QW2.rely h r) (i:=10) rfl (by first|kernel_rfl|decide +kernel) (by first|kernel_rfl|decide +kernel) (by first|kernel_rfl|decide +kernel) (.inl ⟨by rfl,fun _ hw=>⟨run_eq_of ?run10,?guar10⟩⟩) hF ?rest10
 case run10=>
  intro K hK;skip
  go_simp
  exact hK
 case guar10=>
  skip
  co_still (O0 Z i bx O)
 try walk_nrm
 co_applyP anyCH_take (O0 Z i bx O) (fun _ _ h r=>HW.rely h r) (fun _ _ _ h r=>QW2.rely h r) (i:=11) rfl (by first|kernel_rfl|decide +kernel) (by first|kernel_rfl|decide +kernel) (by first|kernel_rfl|decide +kernel) (.inl ⟨by rfl,fun _ hw=>⟨run_eq_of ?run11,?guar11⟩⟩) hF ?rest11
 case run11=>
  intro K hK;skip
  go_simp
  exact hK
 case guar11=>
  skip
  co_still (O0 Z i bx O)
 try walk_nrm
 co_applyP anyCH_take (O0 Z i bx O) (fun _ _ h r=>HW.rely h r) (fun _ _ _ h r=>QW2.rely h r) (i:=12) rfl (by first|kernel_rfl|decide +kernel) (by first|kernel_rfl|decide +kernel) (by first|kernel_rfl|decide +kernel) (.inl ⟨by rfl,fun _ hw=>⟨run_eq_of ?run12,?guar12⟩⟩) hF ?rest12
 case run12=>
  intro K hK;skip
  go_simp
  exact hK
 case guar12=>
  skip
  co_still (O0 Z i bx O)
 try walk_nrm
 refine anyCH_all (rs:=[13]) (by first|kernel_rfl|decide +kernel) (by simp) ?_;intro j hj;obtain rfl:j=13:=by simpa using hj
 unfold OpC;simp only[List.getElem?_toArray,List.getElem?_cons_succ,List.getElem?_cons_zero];rw[if_pos (by rfl)];intro w₁ r₁;replace hF:=hF.rely r₁;clear r₁;obtain⟨cs,hcs,hsz⟩:=hF.cb;have c0:w₁.cell? ⟨Z.Cb,i*2,none⟩=some cs[i*2]:=by simp[World.cell?,hcs]
 have c1':w₁.cell? ⟨Z.Cb,i*2+1,none⟩=some cs[i*2+1]:=by simp[World.cell?,hcs]
 have z0:∀k,w₁.frozen? ⟨Z.Cb,k,none⟩=false:=fun k=>by simp[World.frozen?,hcs]
 have d0:∀v,(w₁.setCell ⟨Z.Cb,i*2,none⟩ v).cell? ⟨Z.Cb,i*2+1,none⟩=some cs[i*2+1]:=fun v=>by rw[World.cell?_setCell_other _ _ _ _ (by simp),c1']
 have y0:∀v k,(w₁.setCell ⟨Z.Cb,i*2,none⟩ v).frozen? ⟨Z.Cb,k,none⟩=false:=fun v k=>by rw[World.frozen?_setCell];exact z0 k
 go_simp
 obtain⟨t1,t2,t3,t4,t5⟩:=b4q w₁ i (.int .i64 id) (.slice ua um uc) hF.cb h1;have tsz:((w₁.setCell ⟨Z.Cb,i*2,none⟩ (.int .i64 id)).setCell ⟨Z.Cb,i*2+1,none⟩ (.slice ua um uc)).heap.size=w₁.heap.size:=by rw[a8M,a8M]
 have hbx:bx≠Z.Cb:=fun e=>by
  have:=hF.box;rw[e,hcs] at this;injection this with this;injection this with _ h3 _;exact absurd h3.symm htC
 have hl:Z.Cb<w₁.heap.size:=Bi.lt_of_some hcs;have hw2:HW Z i bx O w0 mb sx sb ic c1 c2 id ((w₁.setCell ⟨Z.Cb,i*2,none⟩ (.int .i64 id)).setCell ⟨Z.Cb,i*2+1,none⟩ (.slice ua um uc)):=by
  obtain⟨e1,e2,e3,e4,e5⟩:=hF.eld;have ne:=fun b(hb:Z.Eld b)=>(hZ.eld b hb).2.2.2.1;refine⟨fun b hb=>by rw[tsz];exact hF.nw b hb,by rw[tsz];exact hF.grow,fun b hb=>(t1 b (fun e=>by have:=(hF.nw b hb).1;have:=hZ.C0;omega)).trans (hF.own b hb),hF.eld,hF.lt,(t1 _ hbx).trans hF.box,(ConcN.cell_of_block (t1 _ (ne _ e2)) _).trans hF.sx,(ConcN.cell_of_block (t1 _ (ne _ e3)) _).trans hF.seg,(ConcN.cell_of_block (t1 _ (ne _ e1)) _).trans hF.ids,(ConcN.cell_of_block (t1 _ (ne _ e4)) _).trans hF.id,t2,?_,?_,(ConcN.cell_of_block (t1 _ (ne _ e5)) _).trans hF.e0⟩
  ·obtain⟨v,hv⟩:=hF.al;exact⟨v,(t1 _ hZ.AC).trans hv⟩
  ·exact a2T (t1 _ hZ.WC) hF.live
 have ev:∀e∈listed Tryz.prog 59 ⟨#[V0,.pointer (some ⟨bx,0,none⟩),V2,.pointer (some ⟨mb,0,none⟩),.pointer (some ⟨sx,0,none⟩),V5,.slice ua um uc,x7,x8,x9,x10,x11,x12,.pointer (some ⟨sb,0,none⟩),.pointer (some ⟨sb,0,none⟩),.pointer (some ⟨sb,3,none⟩),.slice (some ⟨Z.Cb,0,none⟩) Z.n c1,.int .i64 i,.pointer (some ⟨mb,1,none⟩),.slice (some ⟨ic,0,none⟩) Z.n c2,.int .i64 i,.pointer (some ⟨ic,i,none⟩),.int .i64 id,.slice ua um uc,.agg #[.int .i64 id,.slice ua um uc],.pointer (some ⟨Z.Cb,i*2,none⟩),undef,undef,undef],ds⟩ c50 w₁,EvW Z i bx O w₁.heap.size e:=by
  intro e he;have hm:=mem_listed he;unfold c50 at hm;have hse:∀(w:World)(es:Array Event)(a:Addr),(store a (.slice ua um uc) .plain).events Tryz.prog w es=storedEv Tryz.prog w es a (.slice ua um uc) .plain:=fun w es a=>events_store _ _ _ _ _ _ rfl;simp[go_sem,storedEv,c0,c1',d0,z0,y0,hse] at hm;rcases hm with hm|hm<;>subst hm
  ·exact⟨hl,.inr ⟨rfl,.inr (.inl ⟨rfl,rfl,.inl (by show i*2=_;omega)⟩)⟩⟩
  ·exact⟨hl,.inr ⟨rfl,.inr (.inl ⟨rfl,rfl,.inr (by show i*2+1=_;omega)⟩)⟩⟩
 refine⟨fun hN=>⟨Nat.le_of_eq tsz.symm,rfl,rfl,rfl,fun b _ _ _ hb=>t1 b hb,fun _=>hw2.al,fun _=>t2,t3,fun _ h=>h,fun _ h=>.inl h,fun b hb=>by rw[tsz];exact(hN b hb).2,fun e he=>by rw[tsz];exact ev e he⟩,hw2,?_⟩;exact anyCH_done (by first|kernel_rfl|decide +kernel) ⟨hw2,t4,t5,rfl,rfl,rfl,rfl⟩ _
end
end Go.Proofs.YtgpbhjjajpbeeaaGreatDoor
