/- A part of what the last file proves. -/
import Derived.Test.YtgpbhjjajpbeeaaGreatDoorR06
import Derived.Shelf.Strings.SlTrimAscii
import Derived.Conc.CrowdStepC2
import Derived.Conc.Beside
import GoSem.Step
import Derived.StepT
set_option linter.all false
set_option maxRecDepth 100000
set_option maxHeartbeats 800000
namespace Go.Proofs.YtgpbhjjajpbeeaaGreatDoor
section
open Go.RowKit Go.Lib Go.Maps Dk Pl
theorem a0H{u:Nat}(h:u<10):Lib.decDigits u=[digit u]:=by
 rw[Lib.decDigits,dif_pos h];unfold digit;rw[Nat.mod_eq_of_lt h]
theorem a4G{u:Nat}(h:¬u<10):Lib.decDigits u=Lib.decDigits (u/10)++[digit u]:=by
 rw[Lib.decDigits,dif_neg h];rfl
theorem b2y(u:Nat):∀k,sfx u (k+1)=sfx (u/10) k++[digit u]:=by
 intro k
 induction k with
 | zero=>simp[sfx]
 | succ k ih=>
  have e1:sfx u (k+1+1)=digit (u/10^(k+1))::sfx u (k+1):=rfl;have e2:sfx (u/10) (k+1)=digit (u/10/10^k)::sfx (u/10) k:=rfl;rw[e1,e2,ih,Nat.div_div_eq_div_mul,Nat.pow_succ,Nat.mul_comm];rfl
theorem b8X:∀m,sfx 0 m=Lib.repeatL [48] m:=by
 intro m
 induction m with
 | zero=>rfl
 | succ m ih=>
  have e1:sfx 0 (m+1)=digit (0/10^m)::sfx 0 m:=rfl;rw[e1,ih,Nat.zero_div];rfl
theorem c1p:∀(k u:Nat),u<10^(k+1)->∃j,(Lib.decDigits u).length+j=k+1/\Lib.repeatL [48] j++Lib.decDigits u=sfx u (k+1):=by
 intro k
 induction k with
 | zero=>
  intro u h;have h':u<10:=by simpa using h
  exact⟨0,by rw[a0H h'];rfl,by rw[a0H h'];simp[sfx,Lib.repeatL]⟩
 | succ k ih=>
  intro u h;by_cases h':u<10
  ·refine⟨k+1,by rw[a0H h'];simp;omega,?_⟩;rw[a0H h',b2y u (k+1),show u/10=0 by omega,b8X]
  ·obtain⟨j,h1,h2⟩:=ih (u/10) (by rw[Nat.pow_succ] at h;omega);refine⟨j,by rw[a4G h'];simp;omega,?_⟩;rw[a4G h',b2y u (k+1),<-h2,List.append_assoc]
def LaidP(w:World):Prop:=Lib.TabIs Tryz.prog w "internal/strconv.uint64pow10" .u64 Lib.pow10Tab
theorem b8Y(w:World)(k:Nat)(os:Array Obj):Ext w (Go.Sort.grow (w.drewN k) os):=by
 have h:=Ext.drewN w k;refine⟨h.os,h.tape,h.output,?_,fun b hb=>?_⟩
 ·show w.heap.size<=((w.drewN k).heap++os).size;have:=h.size;simp only[Array.size_append];omega
 ·show((w.drewN k).heap++os)[b]?=_;rw[Array.getElem?_append_left (by have:=h.size;omega)];exact h.block b hb
theorem b0d(kind:Nm)(id:Nat)(w:World)(hk:kind.length<=1000)(hid:id<=999999)(hl:LaidP w):
 Calls Tryz.prog 56 #[strV kind,.int .i64 id] w fun e w'=>e=.returned (strV (G5 kind id))/\Ext w w':=by
 obtain⟨j,hj,hpad⟩:=c1p 5 id (by omega);have hit:Lib.itoa (id:Int)=Lib.decDigits id:=by unfold Lib.itoa;rw[if_neg (by omega)];rfl
 have hi:=Tryz.strconv_Itoa (id:Int) (by omega) (by omega) w hl;rw[hit] at hi;obtain⟨ds,hds⟩:∃ds,Lib.decDigits id=ds:=⟨_,rfl⟩;rw[hds] at hi hj hpad;have HI:=Lib.hid hi;have HP:=Lib.hid hpad;clear hi hpad hit hds hl;unfold strV;go_enter Tryz.func56,Tryz.ntmps56
 go_wp2_with fail
 refine HI.out.mono ?_;rintro e w1 ⟨rfl,kd,os,rfl⟩;have hE1:=b8Y w kd os;have hr:=Tryz.strings_Repeat ⟨#[48]⟩ j (Go.Sort.grow (w.drewN kd) os) (by omega) (by show 1*j<=_;omega);have hsub:(6:Int) - (ds.length:Int)=(j:Int):=by omega
 have HE:=Lib.hid hE1;have HR:=Lib.hid hr;clear hE1 hr;have hdl:ds.length<=6:=by omega
 have hrl:(Lib.repeatL [48] j).length=j:=by rw[Lib.repeatL_length];simp
 obtain⟨zs,hzs⟩:∃zs,Lib.repeatL [48] j=zs:=⟨_,rfl⟩;rw[hzs] at hrl;have hjl:zs.length<=6:=by omega
 have HZ:=Lib.hid hzs;clear hzs hrl;go_wp2_with fail
 refine HR.out.mono ?_;rintro e w2 ⟨rfl,hE2⟩;have hE3:=Ext.trans HE.out hE2;have HE3:=Lib.hid hE3;clear hE3 hE2;rw[show Lib.repeatL (⟨#[48]⟩:ByteArray).data.toList j=zs from HZ.out];go_wp2;go_ret;refine⟨?_,HE3.out⟩;rw[a6S,<-HP.out,HZ.out,<-List.append_assoc,<-a7R,<-a7R];rfl
end
end Go.Proofs.YtgpbhjjajpbeeaaGreatDoor
namespace Go.Mc
section
open Go.Conc
inductive Tr:Type where
 | leaf:Tr
 | node (f:World->Tr):Tr
inductive a3l:Tr->Tr->Prop
 | mk (f:World->Tr) (w:World):a3l (f w) (.node f)
theorem a3l.wf:WellFounded a3l:=⟨fun T=>by
 induction T with
 | leaf=>exact⟨_,fun y h=>by cases h⟩
 | node f ih=>exact⟨_,fun y h=>by cases h with|mk _ w=>exact ih w⟩⟩
def a6Q(n:Nat)(T' T:Nat->Tr):Prop:=∃i,i<n/\a3l (T' i) (T i)/\∀k,k≠i->T' k=T k
theorem a6Q.acc(n:Nat):∀T:Nat->Tr,Acc (a6Q n) T:=by
 induction n with
 | zero=>exact fun T=>⟨_,fun y h=>by obtain⟨i,hi,_⟩:=h;omega⟩
 | succ n ih=>
  have key:∀(x:Tr),Acc a3l x->∀T:Nat->Tr,Acc (a6Q n) T->T n=x->Acc (a6Q (n+1)) T:=by
   intro x hx
   induction hx with
   | intro x _ ihx=>
    intro T hT
    induction hT with
    | intro T _ ihT=>
     intro e;refine⟨_,fun T' h=>?_⟩;obtain⟨i,hi,hlt,hk⟩:=h;by_cases hin:i=n
     ·subst hin;exact ihx (T' i) (e▸hlt) T' (ih T') rfl
     ·exact ihT T' ⟨i,by omega,hlt,hk⟩ ((hk n (Ne.symm hin)).trans e)
  exact fun T=>key (T n) (a3l.wf.apply _) T (ih T) rfl
structure Mu where
 S:Nat
 T:Nat->Tr
 T0:Tr
 e:Nat
inductive a3H(n:Nat):Mu->Mu->Prop
 | stage (a b:Mu) (h:a.S<b.S):a3H n a b
 | worker (a b:Mu) (h:a.S=b.S) (hT:a6Q n a.T b.T):a3H n a b
 | starter (a b:Mu) (h:a.S=b.S) (hT:a.T=b.T) (h0:a3l a.T0 b.T0):a3H n a b
 | blocks (a b:Mu) (h:a.S=b.S) (hT:a.T=b.T) (h0:a.T0=b.T0) (he:a.e<b.e):a3H n a b
theorem a3H.wf(n:Nat):WellFounded (a3H n):=⟨by
 have key:∀(s:Nat),∀(T:Nat->Tr),Acc (a6Q n) T->∀(x:Tr),Acc a3l x->∀e:Nat,Acc (a3H n) ⟨s,T,x,e⟩:=by
  intro s
  induction s using Nat.strongRecOn with
  | _ s ihs=>
   intro T hT
   induction hT with
   | intro T _ ihT=>
    intro x hx
    induction hx with
    | intro x _ ihx=>
     intro e
     induction e using Nat.strongRecOn with
     | _ e ihe=>
      refine⟨_,fun y h=>?_⟩;obtain⟨s',T',x',e'⟩:=y
      cases h with
      | stage h=>exact ihs s' h T' (a6Q.acc n T') x' (a3l.wf.apply _) e'
      | worker h hT'=>
       dsimp only at h;subst h
       exact ihT T' hT' x' (a3l.wf.apply _) e'
      | starter h hT' h0=>
       dsimp only at h hT' h0;subst h;subst hT'
       exact ihx x' h0 e'
      | blocks h hT' h0 he=>
       dsimp only at h hT' h0 he;subst h;subst hT';subst h0;exact ihe e' he
 exact fun⟨s,T,x,e⟩=>key s T (a6Q.acc n T) x (a3l.wf.apply _) e⟩
section
variable{γ:Type}(P:Program)(main:Bool)(R:γ->World->World->Prop)(D:γ->γ->World->World->Array Event->Prop)(Stop:γ->Goroutine->World->Prop)
def Wk:Tr->γ->Goroutine->World->Prop
 | .leaf,x,g,w=>∀w₁,R x w w₁->Stop x g w₁
 | .node f,x,g,w=>(∀w₁,R x w w₁->Stop x g w₁)\/(g.status=.running/\∀w₁,R x w w₁->∃g' w' es x',stepG P main g w₁=.go g' w' es/\D x x' w₁ w' es/\Wk (f w₁) x' g' w')
end
section
variable{γ:Type}{P:Program}{main:Bool}{R:γ->World->World->Prop}{D:γ->γ->World->World->Array Event->Prop}{Stop:γ->Goroutine->World->Prop}
theorem Wk.stop{T:Tr}{x:γ}{g:Goroutine}{w:World}(h:∀w₁,R x w w₁->Stop x g w₁):Wk P main R D Stop T x g w:=by
 cases T with
 | leaf=>exact h
 | node f=>exact .inl h
theorem Wk.rely(tr:∀x a b c,R x a b->R x b c->R x a c){T:Tr}{x:γ}{g:Goroutine}{w w₁:World}(h:Wk P main R D Stop T x g w)(hr:R x w w₁):Wk P main R D Stop T x g w₁:=by
 cases T with
 | leaf=>exact fun w₂ h₂=>h w₂ (tr _ _ _ _ hr h₂)
 | node f=>
  rcases h with h|⟨hs,h⟩
  ·exact .inl fun w₂ h₂=>h w₂ (tr _ _ _ _ hr h₂)
  ·exact .inr ⟨hs,fun w₂ h₂=>h w₂ (tr _ _ _ _ hr h₂)⟩
theorem Wk.running(hst:∀x g w,Stop x g w->g.status=.running){T:Tr}{x:γ}{g:Goroutine}{w:World}(hr:R x w w)(h:Wk P main R D Stop T x g w):g.status=.running:=by
 cases T with
 | leaf=>exact hst _ _ _ (h w hr)
 | node f=>exact h.elim (fun h=>hst _ _ _ (h w hr)) (·.1)
theorem Wk.cases{T:Tr}{x:γ}{g:Goroutine}{w:World}(h:Wk P main R D Stop T x g w):
 (∀w₁,R x w w₁->Stop x g w₁)\/∀w₁,R x w w₁->∃T' g' w' es x',a3l T' T/\stepG P main g w₁=.go g' w' es/\D x x' w₁ w' es/\Wk P main R D Stop T' x' g' w':=by
 cases T with
 | leaf=>exact .inl h
 | node f=>
  refine h.imp id fun h w₁ hr=>?_;obtain⟨g',w',es,x',h1,h2,h3⟩:=h.2 w₁ hr;exact⟨f w₁,g',w',es,x',.mk f w₁,h1,h2,h3⟩
theorem Wk.step{x:γ}{g:Goroutine}{w:World}(hs:g.status=.running)(h:∀w₁,R x w w₁->∃g' w' es x' T,stepG P main g w₁=.go g' w' es/\D x x' w₁ w' es/\Wk P main R D Stop T x' g' w'):∃T,Wk P main R D Stop T x g w:=by
 classical
 have:∀w₁,∃T,R x w w₁->∃g' w' es x',stepG P main g w₁=.go g' w' es/\D x x' w₁ w' es/\Wk P main R D Stop T x' g' w':=fun w₁=>by
  by_cases hr:R x w w₁
  ·obtain⟨g',w',es,x',T,h1⟩:=h w₁ hr;exact⟨T,fun _=>⟨g',w',es,x',h1⟩⟩
  ·exact⟨.leaf,fun h=>absurd h hr⟩
 refine⟨.node fun w₁=>Classical.choose (this w₁),.inr ⟨hs,fun w₁ hr=>Classical.choose_spec (this w₁) hr⟩⟩
theorem Wk.bind{Stop':γ->Goroutine->World->Prop}(hR:∀x w,R x w w)(tr:∀x a b c,R x a b->R x b c->R x a c){T:Tr}:∀{x:γ}{g:Goroutine}{w:World},Wk P main R D Stop T x g w->
 (∀x g w,Stop x g w->∃T',Wk P main R D Stop' T' x g w)->∃T',Wk P main R D Stop' T' x g w:=by
 induction T with
 | leaf=>exact fun h k=>k _ _ _ (h _ (hR _ _))
 | node f ih=>
  intro x g w h k;rcases h with h|⟨hs,h⟩
  ·exact k _ _ _ (h _ (hR _ _))
  ·refine Wk.step hs fun w₁ hr=>?_;obtain⟨g',w',es,x',h1,h2,h3⟩:=h w₁ hr;obtain⟨T',h4⟩:=ih w₁ h3 k;exact⟨g',w',es,x',T',h1,h2,h4⟩
theorem Wk.ofGoes{R0:World->World->Prop}{D0:World->World->Array Event->Prop}{Stop0:Goroutine->World->Prop}(x:γ)(hRR:∀w w',R x w w'->R0 w w')(hDD:∀w w' es,D0 w w' es->D x x w w' es)(hS:∀g w,Stop0 g w->Stop x g w):
 ∀{n:Nat}{g:Goroutine}{w:World},Goes P main R0 D0 Stop0 n g w->∃T,Wk P main R D Stop T x g w
 | 0,g,w,h=>⟨.leaf,fun w₁ hr=>hS _ _ (h w₁ (hRR _ _ hr))⟩
 | n+1,g,w,h=>by
  rcases h with h|⟨hs,h⟩
  ·exact⟨.leaf,fun w₁ hr=>hS _ _ (h w₁ (hRR _ _ hr))⟩
  ·refine Wk.step hs fun w₁ hr=>?_;obtain⟨g',w',es,e,hd,hn⟩:=goes_elim (h w₁ (hRR _ _ hr));obtain⟨T,hT⟩:=Wk.ofGoes x hRR hDD hS hn;exact⟨g',w',es,x,T,e,hDD _ _ _ hd,hT⟩
end
end
section
open Go.Conc Go.ConcN
section
variable(c:Nat)(Sh Old:Loc->Prop)(Own Rd:Nat->Loc->Prop)
structure Apart:Prop where
 own:∀i k l,Own i l->Own k l->i=k
 ownRd:∀i k l,Own i l->¬Rd k l
 ownSh:∀i l,Own i l->¬Sh l
 rdSh:∀i l,Rd i l->¬Sh l
 ownOld:∀i l,Own i l->¬Old l
 rdOld:∀i l,Rd i l->¬Old l
 shOld:∀l,Sh l->¬Old l
structure CT(t:Trace)(j:Nat):Prop where
 quiet:Quiet Sh t
 own:∀i,i<j->∀l,Own i l->Perm t (c+i) l
 rd:∀i,i<j->∀l,Rd i l->PermW t (c+i) l
 free:∀l,¬Sh l->¬Old l->(∀i,i<j->¬Own i l/\¬Rd i l)->Perm t 0 l
 mine:∀l,¬Sh l->¬Old l->(∀i,i<j->¬Own i l)->PermW t 0 l
 nr:∀said,¬Race said t
 gs:∀(i:Nat)(op:MemOp),t[i]?=some op->op.g<c+j
def Ok0(j:Nat)(op:MemOp):Prop:=
 op.g=0/\∀x,op.act.touch?=some x->(Sh x.loc/\x.kind≠.plain)\/(¬Sh x.loc/\¬Old x.loc/\(∀i,i<j->¬Own i x.loc)/\(x.write=true->∀i,i<j->¬Rd i x.loc))
def OkW(i:Nat)(op:MemOp):Prop:=
 op.g=c+i/\∀x,op.act.touch?=some x->(Sh x.loc/\x.kind≠.plain/\x.kind≠.said)\/Own i x.loc\/(Rd i x.loc/\x.write=false)
end
section
variable{c:Nat}{Sh Old:Loc->Prop}{Own Rd:Nat->Loc->Prop}{t u:Trace}{j:Nat}
theorem CT.app0(hc:0<c)(A:Apart Sh Old Own Rd)(h:CT c Sh Old Own Rd t j)(hu:∀op∈u,Ok0 Sh Old Own Rd j op):CT c Sh Old Own Rd (t++u) j:=by
 refine⟨h.quiet.app fun op hop x hx hs=>?_,fun i ij l hl=>(h.own i ij l hl).app fun op hop b hb e=>?_,fun i ij l hl=>(h.rd i ij l hl).app fun op hop b hb e hw=>?_,
  fun l hs ho hl=>(h.free l hs ho hl).app fun op hop _ _ _=>(hu op hop).1,fun l hs ho hl=>(h.mine l hs ho hl).app fun op hop _ _ _ _=>(hu op hop).1,fun said=>?_,fun i op hi=>?_⟩
 ·rcases(hu op hop).2 x hx with⟨_,hk⟩|⟨hn,_⟩
  ·exact⟨hk,fun _=>(hu op hop).1⟩
  ·exact absurd hs hn
 ·rcases(hu op hop).2 b hb with⟨hs,_⟩|⟨_,_,hn,_⟩
  ·exact absurd (e▸hs) (A.ownSh i l hl)
  ·exact absurd (e▸hl) (hn i ij)
 ·rcases(hu op hop).2 b hb with⟨hs,_⟩|⟨_,_,_,hn⟩
  ·exact absurd (e▸hs) (A.rdSh i l hl)
  ·exact absurd (e▸hl) (hn hw i ij)
 ·refine noRace_append (h.nr said) (fun op hop=>(hu op hop).1) (fun i a ha op hop b hb hc=>?_);rcases(hu op hop).2 b hb with⟨hs,hk⟩|⟨hs,ho,hno,hnr⟩
  ·exact h.quiet.known hs hk (fun _=>rfl) i a ha hc
  ·cases hbw:b.write with
   | true=>exact h.free b.loc hs ho (fun k kj=>⟨hno k kj,hnr hbw k kj⟩) i a ha hc.1
   | false=>exact h.mine b.loc hs ho hno i a ha hc.1 (hc.2.2.1.resolve_right (by simp[hbw]))
 ·rcases getElem?_append_cases hi with⟨_,hi'⟩|⟨_,hiu⟩
  ·exact h.gs i op hi'
  ·rw[(hu op hiu).1];omega
theorem CT.appW(A:Apart Sh Old Own Rd)(h:CT c Sh Old Own Rd t j){i:Nat}(ij:i<j)(hu:∀op∈u,OkW c Sh Own Rd i op):CT c Sh Old Own Rd (t++u) j:=by
 refine⟨h.quiet.app fun op hop x hx hs=>?_,fun i' ij' l hl=>(h.own i' ij' l hl).app fun op hop b hb e=>?_,fun i' ij' l hl=>(h.rd i' ij' l hl).app fun op hop b hb e hw=>?_,
  fun l hs ho hl=>(h.free l hs ho hl).app fun op hop b hb e=>?_,fun l hs ho hl=>(h.mine l hs ho hl).app fun op hop b hb e hw=>?_,fun said=>?_,fun k op hi=>?_⟩
 ·rcases(hu op hop).2 x hx with⟨_,hk,hn⟩|ho|⟨hr,_⟩
  ·exact⟨hk,fun e=>absurd e hn⟩
  ·exact absurd hs (A.ownSh i _ ho)
  ·exact absurd hs (A.rdSh i _ hr)
 ·rcases(hu op hop).2 b hb with⟨hs,_⟩|ho|⟨hr,_⟩
  ·exact absurd (e▸hs) (A.ownSh i' l hl)
  ·rw[(hu op hop).1,A.own i i' l (e▸ho) hl]
  ·exact absurd (e▸hr) (A.ownRd i' i l hl)
 ·rcases(hu op hop).2 b hb with⟨hs,_⟩|ho|⟨_,hr⟩
  ·exact absurd (e▸hs) (A.rdSh i' l hl)
  ·exact absurd hl (A.ownRd i i' l (e▸ho))
  ·rw[hr] at hw;cases hw
 ·rcases(hu op hop).2 b hb with⟨hs',_⟩|ho|⟨hr,_⟩
  ·exact absurd (e▸hs') hs
  ·exact absurd (e▸ho) (hl i ij).1
  ·exact absurd (e▸hr) (hl i ij).2
 ·rcases(hu op hop).2 b hb with⟨hs',_⟩|ho|⟨_,hr⟩
  ·exact absurd (e▸hs') hs
  ·exact absurd (e▸ho) (hl i ij)
  ·rw[hr] at hw;cases hw
 ·refine noRace_append (h.nr said) (fun op hop=>(hu op hop).1) (fun k a ha op hop b hb hc=>?_);rcases(hu op hop).2 b hb with⟨hs,hk,hn⟩|ho|⟨hr,hbw⟩
  ·exact h.quiet.known hs hk (fun e=>absurd e hn) k a ha hc
  ·exact h.own i ij b.loc ho k a ha hc.1
  ·exact h.rd i ij b.loc hr k a ha hc.1 (hc.2.2.1.resolve_right (by simp[hbw]))
 ·rcases getElem?_append_cases hi with⟨_,hi'⟩|⟨_,hiu⟩
  ·exact h.gs k op hi'
  ·rw[(hu op hiu).1];omega
theorem CT.appMute(h:CT c Sh Old Own Rd t j){g:Nat}(hg:g<c+j)(hu:∀op∈u,op.g=g)(hn:∀op∈u,op.act.touch?=none):CT c Sh Old Own Rd (t++u) j:=by
 have no:∀{op:MemOp}{b:Touch}{p:Prop},op∈u->op.act.touch?=some b->p:=fun hop hb=>by rw[hn _ hop] at hb;cases hb
 refine⟨h.quiet.app fun op hop x hx hs=>no hop hx,fun i ij l hl=>(h.own i ij l hl).app fun op hop b hb e=>no hop hb,fun i ij l hl=>(h.rd i ij l hl).app fun op hop b hb e hw=>no hop hb,
  fun l hs ho hl=>(h.free l hs ho hl).app fun op hop _ hb _=>no hop hb,fun l hs ho hl=>(h.mine l hs ho hl).app fun op hop _ hb _ _=>no hop hb,fun said=>?_,fun i op hi=>?_⟩
 ·exact noRace_append (h.nr said) hu (fun i a ha op hop b hb hc=>no hop hb)
 ·rcases getElem?_append_cases hi with⟨_,hi'⟩|⟨_,hiu⟩
  ·exact h.gs i op hi'
  ·rw[hu op hiu];exact hg
theorem CT.grow{Own':Nat->Loc->Prop}(h:CT c Sh Old Own Rd t j)(hm:∀i l,Own i l->Own' i l)(hn:∀i l,Own' i l->Own i l\/∀k a,touchAt t k=some a->a.loc≠l):CT c Sh Old Own' Rd t j:=by
 refine⟨h.quiet,fun i ij l hl=>?_,h.rd,fun l hs ho hl=>h.free l hs ho fun i ij=>⟨fun x=>(hl i ij).1 (hm i l x),(hl i ij).2⟩,fun l hs ho hl=>h.mine l hs ho fun i ij x=>hl i ij (hm i l x),h.nr,h.gs⟩;rcases hn i l hl with h1|h1
 ·exact h.own i ij l h1
 ·exact fun k a ha e=>absurd e (h1 k a ha)
theorem CT.fork(hc:0<c)(A:Apart Sh Old Own Rd)(h:CT c Sh Old Own Rd t j){x y:MemOp}(hx:x.g=0/\x.act=.go (c+j))(hy:y.g=c+j/\y.act=.start)(h0:Deaf t 0=0):CT c Sh Old Own Rd (t++#[x,y]) (j+1):=by
 have hk:Deaf t (c+j)=0:=Deaf_absent fun i op hi e=>by have:=h.gs i op hi;omega
 have hnt:∀op∈#[x,y],∀b,op.act.touch?=some b->False:=by
  intro op hop b hb;simp only[List.mem_toArray,List.mem_cons,List.not_mem_nil,or_false] at hop;rcases hop with rfl|rfl
  ·rw[hx.2] at hb;cases hb
  ·rw[hy.2] at hb;cases hb
 have old:∀{i:Nat}{a:Touch},touchAt (t++#[x,y]) i=some a->touchAt t i=some a:=by
  intro i a ha;obtain⟨z,hz,hza⟩:=touch_of ha;rcases getElem?_append_cases hz with⟨_,hz'⟩|⟨_,hzu⟩
  ·rw[touchAt_of hz'];exact hza
  ·exact(hnt z hzu a hza).elim
 refine⟨h.quiet.app fun op hop b hb _=>(hnt op hop b hb).elim,fun k kj l hl=>?_,fun k kj l hl=>?_,
  fun l hs ho hl=>(h.free l hs ho fun k kj=>hl k (by omega)).app fun op hop b hb _=>(hnt op hop b hb).elim,fun l hs ho hl=>(h.mine l hs ho fun k kj=>hl k (by omega)).app fun op hop b hb _ _=>(hnt op hop b hb).elim,fun said=>?_,fun i op hi=>?_⟩
 ·rcases Nat.lt_or_ge k j with hlt|hge
  ·exact(h.own k hlt l hl).app fun op hop b hb _=>(hnt op hop b hb).elim
  ·obtain rfl:k=j:=by omega
   exact fun i a ha e=>fork_knows hx hy h0 hk (h.free l (A.ownSh _ l hl) (A.ownOld _ l hl) (fun k' k'j=>⟨fun ho=>by have:=A.own _ _ l ho hl;omega,A.ownRd _ _ l hl⟩) i a (old ha) e)
 ·rcases Nat.lt_or_ge k j with hlt|hge
  ·exact(h.rd k hlt l hl).app fun op hop b hb _ _=>(hnt op hop b hb).elim
  ·obtain rfl:k=j:=by omega
   exact fun i a ha e hw=>fork_knows hx hy h0 hk (h.mine l (A.rdSh _ l hl) (A.rdOld _ l hl) (fun k' _ ho=>A.ownRd _ _ l ho hl) i a (old ha) e hw)
 ·have e:t++#[x,y]=(t++#[x])++#[y]:=by apply Array.ext';simp
  rw[e];refine noRace_append (g:=c+j) (noRace_append (g:=0) (h.nr said) (fun op hop=>by simp at hop;rw[hop];exact hx.1) (fun i a _ op hop b hb _=>(hnt op (by simp at hop⊢;exact .inl hop) b hb).elim))
   (fun op hop=>by simp at hop;rw[hop];exact hy.1) (fun i a _ op hop b hb _=>(hnt op (by simp at hop⊢;exact .inr hop) b hb).elim)
 ·rcases getElem?_append_cases hi with⟨_,hi'⟩|⟨_,hiu⟩
  ·have:=h.gs i op hi';omega
  ·simp only[List.mem_toArray,List.mem_cons,List.not_mem_nil,or_false] at hiu;rcases hiu with rfl|rfl
   ·rw[hx.1];omega
   ·rw[hy.1];omega
theorem b0j{B:Nat}{act:MemAct}{x:Touch}(h:act.low B)(hx:act.touch?=some x):x.loc.low B:=by
 cases act with
 | access e=>simp only[MemAct.touch?,Option.some.injEq] at hx;subst hx;exact h
 | mark m=>
  cases m<;>simp only[MemAct.touch?] at hx<;>cases hx<;>exact h
 | _=>simp only[MemAct.touch?] at hx;cases hx
theorem CT.init{Shun:Loc->Prop}{B:Nat}(hc:0<c)(h:Past Shun B t)(hO:∀l,¬Old l->¬Shun l/\l.isMemory=true)(hS:∀l,Sh l->¬l.low B)(hg:∀(i:Nat)(op:MemOp),t[i]?=some op->op.g<c):CT c Sh Old Own Rd t 0:=by
 have kn:∀l,¬Old l->∀i a,touchAt t i=some a->a.loc=l->Knows t 0 i:=fun l hl i a ha e=>by
  rcases h.known i a ha (by rw[e];exact(hO l hl).2) with hk|⟨hk,_⟩
  ·exact hk
  ·exact absurd (e▸hk) (hO l hl).1
 refine⟨fun i op x hi hx hs=>?_,fun i ij=>by omega,fun i ij=>by omega,fun l _ ho _=>kn l ho,fun l _ ho _ i a ha e _=>kn l ho i a ha e,h.clean,fun i op hi=>by have:=hg i op hi;omega⟩;exfalso;refine hS _ hs ?_;have hlow:=h.seen op (Array.mem_of_getElem? hi);exact b0j hlow hx
structure Rel(Wg:Nat)(t:Trace)(k r:Nat):Prop extends RelBy (Go.ConcR.stA Wg) t k r where
 only:∀i a,r<i->t.g? i=some k->touchAt t i=some a->ShN Wg a.loc/\a.kind=.atomic
theorem Rel.appNot{Wg k r:Nat}(h:Rel Wg t k r)(hu:∀op∈u,op.g≠k):Rel Wg (t++u) k r:=by
 refine⟨h.toRelBy.appNot hu,fun i a hi hg ha=>?_⟩;obtain⟨op,ho,hog⟩:=Option.map_eq_some_iff.1 hg;rcases getElem?_append_cases ho with⟨hlt,_⟩|⟨_,hou⟩
 ·exact h.only i a hi (by rw[<-g?_old (u:=u) hlt];exact hg) (by rw[<-touchAt_old (u:=u) hlt];exact ha)
 ·exact absurd hog (hu op hou)
theorem Rel.new{Wg k:Nat}(hd:Deaf t k=0)(fn:FuncId)(pos:String):Rel Wg (t++MemOp.ofEvents k fn pos #[Go.ConcR.mk (.releaseMerge (Go.ConcR.stA Wg))]) k t.size:=by
 refine⟨RelBy.new hd fn pos,fun i a hi hg _=>?_⟩;obtain⟨op,ho,_⟩:=Option.map_eq_some_iff.1 hg;have:=lt_size_of_getElem? ho;rw[ofEvents_eq] at this;simp at this;omega
theorem Rel.book{Wg k r d:Nat}(h:Rel Wg t k r)(hdk:Deaf t k=d)(fn:FuncId)(pos:String){es:Array Event}(hes:∀e∈es,Go.ConcR.Bk Wg e)
 (hd:∀j e,es[j]?=some e->(MemAct.ofEvent e).touch?=none\/0<deafBehind d (es.extract 0 j)):Rel Wg (t++MemOp.ofEvents k fn pos es) k r:=by
 refine⟨h.toRelBy.book hdk fn pos hes hd,fun i a hi hg ha=>?_⟩;obtain⟨op,ho,hog⟩:=Option.map_eq_some_iff.1 hg;rcases getElem?_append_cases ho with⟨hlt,_⟩|⟨_,hou⟩
 ·exact h.only i a hi (by rw[<-g?_old (u:=MemOp.ofEvents k fn pos es) hlt];exact hg) (by rw[<-touchAt_old (u:=MemOp.ofEvents k fn pos es) hlt];exact ha)
 ·obtain⟨e,he,rfl⟩:=Go.Conc.mem_ofEvents hou;rw[touchAt_of ho] at ha;rcases hes e he with h1|h1|⟨ad,wr,rfl,hb⟩
  ·rw[Go.ConcR.ofEvent_loc_mark h1] at ha;cases ha
  ·rw[Go.ConcR.ofEvent_loc_mark h1] at ha;cases ha
  ·rw[Go.ConcR.ofEvent_cell] at ha;simp only[MemAct.touch?,Option.some.injEq] at ha;subst ha;exact⟨⟨ad,rfl,hb⟩,rfl⟩
end
theorem b9f{c j:Nat}{Sh Old:Loc->Prop}{Own Rd:Nat->Loc->Prop}{Wg B B':Nat}{Shun:Loc->Prop}{t0 u:Trace}(h0:Past Shun B t0)(hB:B<=B')(h:CT c Sh Old Own Rd (t0++u) j){q:Nat}
 (hu:∀op∈u,op.g=0\/op.act.touch?=none\/∃i,i<j/\op.g=c+i)(hn:NoRelease (Go.ConcR.stA Wg) (t0++u))(hq:(t0++u).act? q=some (.mark (.acquire (Go.ConcR.stA Wg))))(hg:(t0++u).g? q=some 0)(hh:(t0++u).heard q)
 (hr:∀i,i<j->∃r,Rel Wg (t0++u) (c+i) r/\r<q)(hd:Deaf (t0++u) 0=0)(hl:∀op∈u,op.act.low B'):Past (fun l=>Shun l\/ShN Wg l) B' (t0++u):=by
 have edge:∀i,i<j->∃r,Rel Wg (t0++u) (c+i) r/\HappensBefore (t0++u) r q:=fun i hi=>by
  obtain⟨r,hr,hrq⟩:=hr i hi;exact⟨r,hr,.single (.inr ⟨.marked hrq (.inr hr.act) hq (fun k _ _=>hn k),hr.heard,hh⟩)⟩
 obtain⟨zq,hzq,hzg⟩:=Option.map_eq_some_iff.1 hg;refine⟨h.nr,fun i a ha hm=>?_,fun i g hgi hne hc=>?_,hd,seen_app (fun op hop=>MemAct.low_mono hB (h0.seen op hop)) hl⟩
 ·obtain⟨x,hx,hxa⟩:=touch_of ha;rcases getElem?_append_cases hx with⟨hi,hx'⟩|⟨_,hxu⟩
  ·exact(h0.known i a (by rw[touchAt_of hx'];exact hxa) hm).imp (·.app u) fun y=>⟨.inl y.1,y.2⟩
  ·rcases hu x hxu with h1|h1|⟨k,hk,h1⟩
   ·have:=knows_own hx;rw[h1] at this;exact .inl this
   ·rw[h1] at hxa;cases hxa
   ·obtain⟨r,hr,he⟩:=edge k hk;have hgx:(t0++u).g? i=some (c+k):=by simp[Trace.g?,hx,h1]
    rcases Nat.lt_or_ge r i with hlt|hge
    ·obtain⟨h2,h3⟩:=hr.only i a hlt hgx ha;exact .inr ⟨.inr h2,h3⟩
    ·refine .inl ⟨q,zq,hzq,hzg,.inr ?_⟩;rcases Nat.lt_or_ge i r with h2|h2
     ·exact .trans (.single (.inl ⟨h2,c+k,hgx,hr.g⟩)) he
     ·obtain rfl:i=r:=by omega
      exact he
 ·obtain⟨x,hx,hxm⟩:=hc;obtain⟨op,hop,hox⟩:=touch_of hx;rcases getElem?_append_cases hop with⟨hi,hop'⟩|⟨_,hopu⟩
  ·obtain⟨p,hp,hb⟩:=h0.over i g (by simpa [Trace.g?,getElem?_append_old hi] using hgi) hne ((counts_old hi).1 ⟨x,hx,hxm⟩);have hpl:p<t0.size:=by
    unfold Trace.g? at hp;obtain⟨z,hz,_⟩:=Option.map_eq_some_iff.1 hp;exact lt_size_of_getElem? hz
   exact⟨p,by simpa [Trace.g?,getElem?_append_old hpl] using hp,hb_app u hb⟩
  ·have hgo:op.g=g:=by simpa [Trace.g?,hop] using hgi
   rcases hu op hopu with h1|h1|⟨k,hk,h1⟩
   ·exact absurd (hgo.symm.trans h1) hne
   ·rw[h1] at hox;cases hox
   ·obtain⟨r,hr,he⟩:=edge k hk;have hgx:(t0++u).g? i=some (c+k):=by rw[hgi,<-hgo,h1]
    rcases Nat.lt_or_ge r i with hlt|hge
    ·exact absurd ⟨x,hx,hxm⟩ (hr.after i hlt hgx)
    ·refine⟨q,hg,?_⟩;rcases Nat.lt_or_ge i r with h2|h2
     ·exact .trans (.single (.inl ⟨h2,c+k,hgx,hr.g⟩)) he
     ·obtain rfl:i=r:=by omega
      exact he
end
end Go.Mc
namespace Go
def Result.w{α:Type}:Result α->World
 | .ok _ u=>u
 | .halt _ u=>u
end Go
namespace Go.Zn
structure Zone where
 D:Nat->Prop
 F:FuncId->Prop
 T:TypeId->Prop
 N:String->Prop
 Y:Nat->Prop
variable(Z:Zone)
inductive FnP:Fn->Prop
 | func (f:FuncId) (h:Z.F f):FnP (.func f)
 | method (n:String) (h:Z.N n):FnP (.method n)
 | yield (l:Nat) (h:Z.D l):FnP (.yield l)
inductive VP:Value->Prop
 | bool (b:Bool):VP (.bool b)
 | int (k:IntKind) (n:Int):VP (.int k n)
 | float (k:FloatKind) (n:Nat):VP (.float k n)
 | complex (k:FloatKind) (n m:Nat):VP (.complex k n m)
 | string (s:ByteArray):VP (.string s)
 | pnil:VP (.pointer none)
 | ptr (a:Addr) (h:Z.D a.block):VP (.pointer (some a))
 | snil (n c:Nat):VP (.slice none n c)
 | slice (a:Addr) (n c:Nat) (h:Z.D a.block):VP (.slice (some a) n c)
 | mnil:VP (.map none)
 | map (r:Nat) (h:Z.D r):VP (.map (some r))
 | cnil:VP (.chan none)
 | func (fn:Fn) (f c:Array Value) (h:FnP Z fn) (hf:∀x∈f,VP x) (hc:∀x∈c,VP x):VP (.func fn f c)
 | nilFunc:VP .nilFunc
 | iface (t:TypeId) (v:Value) (ht:Z.T t) (h:VP v):VP (.iface t v)
 | nilIface:VP .nilIface
 | agg (c:Array Value) (h:∀x∈c,VP x):VP (.agg c)
 | tuple (c:Array Value) (h:∀x∈c,VP x):VP (.tuple c)
def AP(c:Array Value):Prop:=∀x∈c,VP Z x
def LP(l:List Value):Prop:=∀x∈l,VP Z x
section
variable{Z}
theorem AP.nil:AP Z #[]:=fun x h=>by simp at h
theorem AP.push{c:Array Value}(h:AP Z c){v:Value}(hv:VP Z v):AP Z (c.push v):=fun x hx=>by
 rcases Array.mem_push.1 hx with hx|rfl
 ·exact h x hx
 ·exact hv
theorem AP.one{v:Value}(hv:VP Z v):AP Z #[v]:=AP.nil.push hv
theorem AP.append{c d:Array Value}(h:AP Z c)(k:AP Z d):AP Z (c++d):=fun x hx=>(Array.mem_append.1 hx).elim (h x) (k x)
theorem AP.get{c:Array Value}(h:AP Z c){i:Nat}{v:Value}(e:c[i]?=some v):VP Z v:=h v (Array.mem_of_getElem? e)
theorem AP.set{c:Array Value}(h:AP Z c)(i:Nat){v:Value}(hv:VP Z v):AP Z (c.setIfInBounds i v):=fun x hx=>by
 obtain⟨j,hj⟩:=Array.mem_iff_getElem?.1 hx;rw[Array.getElem?_setIfInBounds] at hj;split at hj
 ·split at hj
  ·injection hj with hj;exact hj▸hv
  ·cases hj
 ·exact h.get hj
theorem AP.extract{c:Array Value}(h:AP Z c)(i j:Nat):AP Z (c.extract i j):=fun x hx=>by
 obtain⟨k,hk⟩:=Array.mem_iff_getElem?.1 hx;rw[Array.getElem?_extract] at hk;split at hk
 ·exact h.get hk
 ·cases hk
theorem AP.replicate(n:Nat){v:Value}(hv:VP Z v):AP Z (Array.replicate n v):=fun x hx=>by
 obtain⟨_,rfl⟩:=Array.mem_replicate.1 hx;exact hv
theorem AP.getD{c:Array Value}(h:AP Z c)(i:Nat){v:Value}(hv:VP Z v):VP Z (c.getD i v):=by
 rw[Array.getD_eq_getD_getElem?]
 cases e:c[i]? with
 | none=>exact hv
 | some x=>exact h.get e
theorem AP.list{c:Array Value}(h:AP Z c):LP Z c.toList:=fun x hx=>h x (by simpa using hx)
theorem VP.cells{v:Value}(h:VP Z v):AP Z v.cells:=by
 cases h with
 | agg c hc=>exact hc
 | _=>exact AP.one (by constructor<;>assumption)
end
def b4X:Operand->Prop
 | .tmp _=>True
 | .const v=>VP Z v
 | .global g=>Z.D g
 | .func f=>Z.F f
def bOK:Builtin->Bool
 | .append|.cap|.copy|.delete|.len|.max|.min|.unsafeSliceData|.unsafeString|.unsafeStringData|.panic=>true
 | _=>false
def a4s:Callee->Prop
 | .invoke _ n=>Z.N n
 | .builtin b=>bOK b=true
 | .value _=>True
def OpK:Op->Prop
 | .makeInterface t _=>Z.T t
 | .makeFunc fn _ _=>FnP Z fn
 | .call c=>a4s Z c.callee
 | .go _|.defer _|.send .. | .recv .. | .select .. | .makeChan .. | .ready _|.waits _|.mapEntry .. | .entryStore .. | .sliceToArrayPointer ..=>False
 | _=>True
def OpP(o:Op):Prop:=OpK Z o/\∀x∈o.operands,b4X Z x
def CodeP:Code->Prop
 | .seq a b=>CodeP a/\CodeP b
 | .cond _ a b=>CodeP a/\CodeP b
 | .block _ b=>CodeP b
 | .loop b=>CodeP b
 | .scope b=>CodeP b
 | .region _ ops _=>∀o∈ops,OpP Z o.op
 | .rangeFunc f _ assign body=>b4X Z f/\CodeP assign/\CodeP body
 | _=>True
def b3l:Code->Prop
 | .ret|.exit _|.goto _=>True
 | _=>False
structure c2Q(r:Loop):Prop where
 pending:∀c,r.pending=some c->b3l c
 fn:True
 tmps:AP Z r.tmps
 assign:CodeP Z r.assign
 body:CodeP Z r.body
 defers:Z.D r.defers
inductive ObjP:Obj->Prop
 | cells (c:Array Value) (e:TypeId) (fr:Nat×Nat) (h:AP Z c):ObjP (.cells c e fr)
 | map (es:Array MapEntry) (clock:Nat) (h:∀e∈es,VP Z e.key/\VP Z e.val):ObjP (.map es clock)
 | number (a:Addr) (lost:Bool) (h:Z.D a.block):ObjP (.number a lost)
 | stringIter (s:ByteArray) (pos:Nat):ObjP (.stringIter s pos)
 | iterNil (since:Nat) (seen:Array Nat) (stepped:Nat):ObjP (.mapIter none since seen stepped)
 | iter (m since:Nat) (seen:Array Nat) (stepped:Nat) (h:Z.D m):ObjP (.mapIter (some m) since seen stepped)
 | loop (r:Loop) (h:c2Q Z r):ObjP (.loop r)
 | deferred:ObjP (.deferred (some []))
 | taken:ObjP (.deferred none)
 | view (a:Addr) (t:TypeId) (h:Z.D a.block):ObjP (.view a t)
def MarkOK:Mark->Prop
 | .extern _=>True
 | .noRoom=>True
 | _=>False
def HaltOK:Halt->Prop
 | .unsupported (.initOrder _)=>False
 | .unsupported _=>True
 | .stuck _=>True
 | .panic _=>True
 | _=>False
def Sf(P:Program){α:Type}(Q:α->Prop):Sem α->Prop
 | .halt h=>HaltOK h
 | .pure a=>Q a
 | .load _ a k=>Z.D a.block/\∀v,VP Z v->Sf P Q (k v)
 | .store m a v k=>m=.plain/\Z.D a.block/\VP Z v/\Sf P Q k
 | .new o k=>ObjP Z o/\∀r,Z.D r->Sf P Q (k r)
 | .shape _ k=>∀s,Sf P Q (k s)
 | .freeze _ _ k=>Sf P Q k
 | .frozen _ k=>∀b,Sf P Q (k b)
 | .getObj r k=>Z.D r/\∀o,ObjP Z o->Sf P Q (k o)
 | .setObj r o k=>Z.D r/\ObjP Z o/\Sf P Q k
 | .choose _ k=>∀n,Sf P Q (k n)
 | .sys c k=>c=.env/\∀r,Sf P Q (k r)
 | .program k=>Sf P Q (k P)
 | .mark m k=>MarkOK m/\Sf P Q k
section
variable{Z}{P:Program}
theorem Sf.bind{α β:Type}{R:α->Prop}{Q:β->Prop}{s:Sem α}{f:α->Sem β}(h:Sf Z P R s)(hf:∀a,R a->Sf Z P Q (f a)):Sf Z P Q (s >>= f):=by
 show Sf Z P Q (s.bind f)
 induction s with
 | halt _=>exact h
 | pure a=>exact hf _ h
 | load m a k ih=>exact⟨h.1,fun v hv=>ih v (h.2 v hv)⟩
 | store m a v k ih=>exact⟨h.1,h.2.1,h.2.2.1,ih h.2.2.2⟩
 | new o k ih=>exact⟨h.1,fun r hr=>ih r (h.2 r hr)⟩
 | shape r k ih=>exact fun s=>ih s (h s)
 | freeze a n k ih=>exact ih h
 | frozen a k ih=>exact fun b=>ih b (h b)
 | getObj r k ih=>exact⟨h.1,fun o ho=>ih o (h.2 o ho)⟩
 | setObj r o k ih=>exact⟨h.1,h.2.1,ih h.2.2⟩
 | choose q k ih=>exact fun n=>ih n (h n)
 | sys c k ih=>exact⟨h.1,fun r=>ih r (h.2 r)⟩
 | program k ih=>exact ih P h
 | mark m k ih=>exact⟨h.1,ih h.2⟩
theorem Sf.pure{α:Type}{Q:α->Prop}{a:α}(h:Q a):Sf Z P Q (Pure.pure a):=h
end
structure WP(w:World):Prop where
 fresh:∀b,w.heap.size<=b->Z.Y b->Z.D b
 obj:∀b o,Z.D b->w.heap[b]?=some o->ObjP Z o
def EvOK(B:Nat)(e:Event):Prop:=
 match e.loc with
 | .cell a=>(e.write=true->e.sync=false)/\Z.D a.block/\a.block<B
 | .obj r=>e.sync=false/\Z.D r/\r<B
 | .mark m=>MarkOK m
 | .output=>e.sync=false
 | .goroutines=>False
section
variable{Z}{P:Program}
theorem EvOK.mono{B B':Nat}(hB:B<=B'){e:Event}(h:EvOK Z B e):EvOK Z B' e:=by
 unfold EvOK at *;split at h
 ·exact⟨h.1,h.2.1,Nat.lt_of_lt_of_le h.2.2 hB⟩
 ·exact⟨h.1,h.2.1,Nat.lt_of_lt_of_le h.2.2 hB⟩
 ·exact h
 ·exact h
 ·exact h.elim
theorem WP.cell{w:World}(h:WP Z w){a:Addr}(hD:Z.D a.block){v:Value}(hv:w.cell? a=some v):VP Z v/\a.block<w.heap.size:=by
 unfold World.cell? at hv
 cases ho:w.heap[a.block]? with
 | none=>rw[ho] at hv;cases hv
 | some o=>
  have hlt:a.block<w.heap.size:=by
   rcases Nat.lt_or_ge a.block w.heap.size with h|h
   ·exact h
   ·rw[Array.getElem?_eq_none h] at ho;cases ho
  have hx:=h.obj _ _ hD ho;rw[ho] at hv
  cases hx with
  | cells c e fr hc=>
   dsimp only at hv;split at hv
   ·cases hv
   ·exact⟨hc.get hv,hlt⟩
  | _=>cases hv
theorem WP.modify{w u:World}(h:WP Z w)(r:Nat)(hs:u.heap.size=w.heap.size)(ho:∀b,b≠r->u.heap[b]?=w.heap[b]?)(hr:∀o,u.heap[r]?=some o->Z.D r->ObjP Z o):WP Z u:=by
 refine⟨fun b hb hy=>h.fresh b (hs▸hb) hy,fun b o hD hb=>?_⟩;by_cases e:b=r
 ·subst e;exact hr o hb hD
 ·exact h.obj b o hD ((ho b e)▸hb)
theorem WP.setCell{w:World}(h:WP Z w){a:Addr}{v:Value}(hv:VP Z v):WP Z (w.setCell a v):=by
 refine h.modify a.block (by simp[World.setCell]) (fun b hb=>by simp[World.setCell,Array.getElem?_modify,Ne.symm hb]) fun o ho hD=>?_
 cases hx:w.heap[a.block]? with
 | none=>simp[World.setCell,Array.getElem?_modify,hx] at ho
 | some p=>
  have hp:=h.obj _ _ hD hx;simp[World.setCell,Array.getElem?_modify,hx] at ho;subst ho
  cases hp with
  | cells c e fr hc=>
   refine .cells _ _ _ ?_;split
   ·exact hc
   ·exact hc.set _ hv
  | _=>constructor<;>assumption
theorem WP.freeze{w:World}(h:WP Z w)(a:Addr)(n:Nat):WP Z (w.freeze a n):=by
 unfold World.freeze;split
 ·exact h
 refine h.modify a.block (by simp) (fun b hb=>by simp[Array.getElem?_modify,Ne.symm hb]) fun o ho hD=>?_
 cases hx:w.heap[a.block]? with
 | none=>simp[Array.getElem?_modify,hx] at ho
 | some p=>
  have hp:=h.obj _ _ hD hx;simp[Array.getElem?_modify,hx] at ho;subst ho
  cases hp with
  | cells c e fr hc=>exact .cells _ _ _ hc
  | _=>constructor<;>assumption
theorem WP.setObj{w:World}(h:WP Z w){r:Nat}{o:Obj}(ho:ObjP Z o):WP Z {w with heap:=w.heap.setIfInBounds r o}:=by
 refine h.modify r (by simp) (fun b hb=>by simp[Ne.symm hb]) fun x hx hD=>?_;by_cases hlt:r<w.heap.size
 ·simp[hlt] at hx;exact hx▸ho
 ·simp[hlt] at hx
theorem WP.new{w:World}(h:WP Z w){o:Obj}(ho:ObjP Z o):WP Z {w with heap:=w.heap.push o}:=by
 refine⟨fun b hb hy=>h.fresh b (by simp at hb;omega) hy,fun b x hD hb=>?_⟩;have hb':(w.heap.push o)[b]?=some x:=hb;rw[Array.getElem?_push] at hb';split at hb'
 ·injection hb' with e;exact e▸ho
 ·exact h.obj b x hD hb'
theorem a4K{v u:Value}{bs:List UInt8}(h:v.ofBytes bs=some u):VP Z u:=by
 unfold Value.ofBytes at h;split at h
 ·split at h
  ·injection h with h;subst h;exact .bool _
  ·injection h with h;subst h;exact .bool _
  ·cases h
 ·split at h
  ·injection h with h;subst h;exact .int _ _
  ·cases h
 ·split at h
  ·injection h with h;subst h;exact .float _ _
  ·cases h
 ·split at h
  ·injection h with h;subst h;exact .complex _ _ _
  ·cases h
 ·cases h
theorem bind_ok{ε α β:Type}{x:Except ε α}{f:α->Except ε β}{b:β}(h:(x >>= f)=.ok b):∃a,x=.ok a/\f a=.ok b:=by
 cases x with
 | error e=>cases h
 | ok a=>exact⟨a,rfl,h⟩
theorem b4Y{β:Type}{f:Array Value->β->Except String (Array Value)}(hf:∀c x d,AP Z c->f c x=.ok d->AP Z d):
 ∀(l:List β)(c d:Array Value),AP Z c->l.foldlM f c=.ok d->AP Z d:=by
 intro l
 induction l with
 | nil=>intro c d hc h;injection h with h;exact h▸hc
 | cons x l ih=>
  intro c d hc h;rw[List.foldlM_cons] at h;obtain⟨a,h1,h2⟩:=bind_ok h;exact ih a d (hf c x a hc h1) h2
theorem a5O{w:World}{a:Addr}{u:TypeId}{k:Addr}{at_:Bool}{x:Array Value×TypeId×(Nat×Nat)×Nat×Value×List (Nat×Nat×List UInt8)}(h:w.seen P a u k at_=.ok x):
 w.heap[a.block]?=some (.cells x.1 x.2.1 x.2.2.1):=by
 unfold World.seen at h;by_cases hs:(k.spot.isSome||a.spot.isSome)=true
 ·rw[if_pos hs] at h;cases h
 rw[if_neg hs] at h
 cases hp:plainCell P P.depth u k.off with
 | none=>rw[hp] at h;cases h
 | some like=>
  rw[hp] at h
  cases hb:like.bytes? with
  | none=>simp only[hb] at h;cases h
  | some bs=>
   cases hc:byteOfCell P P.depth u k.off with
   | none=>simp only[hb,hc] at h;cases h
   | some β=>
    cases ho:w.heap[a.block]? with
    | none=>simp only[hb,hc,ho] at h;cases h
    | some o=>
     cases o with
     | cells c e fr=>
      simp only[hb,hc,ho] at h;by_cases s0:P.cellsOf e=0
      ·simp only[s0] at h;cases h
      ·dsimp only[Option.map] at h;rw[if_neg s0] at h
       cases hb0:byteOfCell P P.depth e (a.off%P.cellsOf e) with
       | none=>rw[hb0] at h;cases h
       | some b0=>
        rw[hb0] at h;obtain⟨cells,-,h⟩:=bind_ok h
        cases at_ with
        | false=>injection h with h;subst h;rfl
        | true=>
         match cells,h with
         | [],h=>cases h
         | [(i,s,b1)],h=>
          by_cases hz:(decide (s≠a.off/P.cellsOf e*P.bytesOf e+b0 + β)||decide (b1.length≠bs.length))=true
          ·simp only[if_true,hz] at h;cases h
          ·simp only[if_true,hz] at h;injection h with h;subst h;rfl
         | _::_::_,h=>cases h
     | _=>simp only[hb,hc,ho] at h;cases h
theorem WP.far{w:World}(hW:WP Z w){a:Addr}(hD:Z.D a.block){at_:Bool}{v:Value}{l:List Addr}(h:w.farLoad P a at_=.ok (v,l)):VP Z v/\∃b,Z.D b/\b<w.heap.size/\∀x∈l,x.block=b:=by
 unfold World.farLoad at h
 cases ho:w.heap[a.block]? with
 | none=>rw[ho] at h;cases h
 | some o=>
  have hx:=hW.obj _ _ hD ho;rw[ho] at h
  cases hx with
  | view at0 u h0=>
   dsimp only at h
   cases hv:w.viewLoad P at0 u a at_ with
   | error x=>rw[hv] at h;cases h
   | ok r=>
    rw[hv] at h;injection h with h;subst h;unfold World.viewLoad at hv;obtain⟨⟨c,e,fr,first,like,cells⟩,h1,h2⟩:=bind_ok hv;have h3:=a5O h1;dsimp only at h2;split at h2
    ·rename_i v1 hv1;injection h2 with h2;injection h2 with h2 h4;subst h2;subst h4;refine⟨a4K hv1,at0.block,h0,?_,?_⟩
     ·rcases Nat.lt_or_ge at0.block w.heap.size with h|h
      ·exact h
      ·rw[Array.getElem?_eq_none h] at h3;cases h3
     ·intro x hx;obtain⟨y,-,rfl⟩:=List.mem_map.1 hx;rfl
    ·cases h2
  | _=>cases h
theorem WP.farS{w w':World}(hW:WP Z w){a:Addr}(hD:Z.D a.block){at_:Bool}{v:Value}{l:List Addr}(h:w.farStore P a v at_=.ok (w',l)):WP Z w'/\w'.heap.size=w.heap.size/\∃b,Z.D b/\b<w.heap.size/\∀x∈l,x.block=b:=by
 unfold World.farStore at h
 cases ho:w.heap[a.block]? with
 | none=>rw[ho] at h;cases h
 | some o=>
  have hx:=hW.obj _ _ hD ho;rw[ho] at h
  cases hx with
  | view at0 u h0=>
   dsimp only at h
   cases hv:w.viewStore P at0 u a v at_ with
   | error x=>rw[hv] at h;cases h
   | ok r=>
    rw[hv] at h;injection h with h;subst h;unfold World.viewStore at hv;by_cases ht:(!tight P P.depth u)=true
    ·rw[if_pos ht] at hv;cases hv
    ·rw[if_neg ht] at hv;obtain⟨⟨c,e,fr,first,like,cells⟩,h1,h2⟩:=bind_ok hv;have h3:=a5O h1;dsimp only at h2;split at h2
     case h_2=>cases h2
     rename_i bytes hby;by_cases hl:some bytes.length≠like.bytes?.map (·.length)
     ·rw[if_pos hl] at h2;cases h2
     rw[if_neg hl] at h2;obtain⟨c',h4,h5⟩:=bind_ok h2;injection h5 with h5;injection h5 with h5 h6;subst h5;subst h6;have hc:AP Z c:=by
      have:=hW.obj _ _ h0 h3
      cases this with
      | cells _ _ _ h=>exact h
     have hc':AP Z c':=by
      refine b4Y ?_ _ _ _ hc h4;intro d x d' hd hx;obtain⟨i,s,bs⟩:=x;dsimp only at hx;split at hx
      ·cases hx
      split at hx
      ·cases hx
      split at hx
      case h_2=>cases hx
      split at hx
      case h_2=>cases hx
      rename_i new hnew;injection hx with hx;subst hx;exact hd.set _ (a4K hnew)
     refine⟨hW.setObj (.cells _ _ _ hc'),by simp,at0.block,h0,?_,?_⟩
     ·rcases Nat.lt_or_ge at0.block w.heap.size with h|h
      ·exact h
      ·rw[Array.getElem?_eq_none h] at h3;cases h3
     ·intro x hx;obtain⟨y,-,rfl⟩:=List.mem_map.1 hx
      rfl
  | _=>cases h
theorem World.ask_heap{α:Type}(w:World)(k:Ask α):(w.ask k).2.heap=w.heap:=by
 induction k generalizing w with
 | done a=>rfl
 | ask what range k ih=>
  unfold Go.World.ask;dsimp only;split
  ·exact ih _ _
  ·rw[ih]
theorem World.sys_heap(w:World)(c:Sys):(w.sys c).2.heap=w.heap:=by
 have:=World.ask_heap w (Kernel.perform c w.os);unfold Go.World.sys;split
 ·rfl
 ·rename_i h1;rw[h1] at this;exact this
theorem a9D{P:Program}{w w':World}{a:Addr}{v:Value}{at_:Bool}{l:List Addr}(h:w.farStore P a v at_=.ok (w',l)):w'.heap.size=w.heap.size:=by
 unfold World.farStore at h;split at h
 ·split at h
  ·rename_i h1;injection h with h;subst h;rename_i at0 u _ _;unfold World.viewStore at h1;by_cases ht:(!tight P P.depth u)=true
   ·rw[if_pos ht] at h1;cases h1
   rw[if_neg ht] at h1;obtain⟨⟨c,e,fr,first,like,cells⟩,-,h2⟩:=bind_ok h1;dsimp only at h2;split at h2
   case h_2=>cases h2
   rename_i bytes _;by_cases hl:some bytes.length≠like.bytes?.map (·.length)
   ·rw[if_pos hl] at h2;cases h2
   rw[if_neg hl] at h2;obtain⟨c',-,h5⟩:=bind_ok h2;injection h5 with h5;injection h5 with h5 h6;subst h5;simp
  ·cases h
 ·cases h
theorem runT_size{α:Type}(P:Program)(s:Sem α)(w:World)(es:Array Event):w.heap.size<=(s.runT P w es).1.w.heap.size:=by
 induction s generalizing w es with
 | halt x=>exact Nat.le_refl _
 | pure x=>exact Nat.le_refl _
 | load m a k ih=>
  simp only[Sem.runT];split
  ·exact ih _ _ _
  ·split
   ·exact ih _ _ _
   ·exact Nat.le_refl _
 | store m a v k ih=>
  have e1:(Sem.store m a v k).runT P w es=(.halt (.stuck "store: not the value of one cell") w,es)\/(Sem.store m a v k).runT P w es=match w.cell? a with
   | some _=>if w.frozen? a then(.halt (.unsupported (.unsafePointer "a write to bytes that a string shares")) w,es) else k.runT P (w.setCell a v) (es.push ⟨.cell a,true,m==.atomic⟩)
   | none=>match w.farStore P a v (m==.atomic) with
    | .ok (w,touched)=>k.runT P w (es++touched.toArray.map (⟨.cell ·,true,m==.atomic⟩))
    | .error h=>(.halt h w,es):=by
   cases v<;>first|exact .inl rfl|exact .inr rfl
  rcases e1 with e1|e1
  ·rw[e1];exact Nat.le_refl _
  rw[e1];split
  ·split
   ·exact Nat.le_refl _
   ·refine Nat.le_trans ?_ (ih _ _);simp[World.setCell]
  ·split
   ·rename_i h1;rw[<-a9D h1];exact ih _ _
   ·exact Nat.le_refl _
 | new o k ih=>exact Nat.le_trans (by simp) (ih _ _ _)
 | shape r k ih=>exact ih _ _ _
 | freeze a n k ih=>
  refine Nat.le_trans ?_ (ih _ _)
  unfold World.freeze;split<;>simp
 | frozen a k ih=>exact ih _ _ _
 | getObj r k ih=>
  simp only[Sem.runT];split
  ·exact Nat.le_refl _
  ·exact ih _ _ _
  ·exact Nat.le_refl _
 | setObj r o k ih=>
  simp only[Sem.runT];split
  ·exact Nat.le_refl _
  ·refine Nat.le_trans ?_ (ih _ _);simp
  ·exact Nat.le_refl _
 | choose q k ih=>
  simp only[Sem.runT];split
  ·exact ih _ _ _
  ·exact ih _ {w with drawn:=w.drawn+1} _
 | sys c k ih=>
  have:=ih (w.sys c).1 (w.sys c).2 (es.push ⟨.output,true,false⟩);rw[World.sys_heap w c] at this
  exact this
 | program k ih=>exact ih _ _ _
 | mark m k ih=>exact ih _ _
def b3m{α:Type}(Q:α->Prop)(w:World)(es:Array Event):Result α×Array Event->Prop
 | (.ok a u,es')=>Q a/\WP Z u/\w.heap.size<=u.heap.size/\∃new,es'=es++new/\∀e∈new,EvOK Z u.heap.size e
 | (.halt h u,_)=>HaltOK h/\WP Z u
theorem b3m.step{α:Type}{Q:α->Prop}{w v:World}{es e1:Array Event}{r:Result α×Array Event}(h:b3m (Z:=Z) Q v (es++e1) r)(hs:w.heap.size<=v.heap.size)(he:∀e∈e1,EvOK Z v.heap.size e):b3m (Z:=Z) Q w es r:=by
 obtain⟨r,es'⟩:=r
 cases r with
 | halt=>exact h
 | ok a u=>
  obtain⟨h1,h2,h3,new,h4,h5⟩:=h;refine⟨h1,h2,Nat.le_trans hs h3,e1++new,by rw[h4,Array.append_assoc],fun e hm=>?_⟩;rcases Array.mem_append.1 hm with hm|hm
  ·exact(he e hm).mono h3
  ·exact h5 e hm
def Kept{α:Type}(Q:α->Prop)(w:World)(es:Array Event)(r:Result α×Array Event):Prop:=(∀b,b<r.1.w.heap.size->Z.Y b)->b3m (Z:=Z) Q w es r
theorem Kept.step{α:Type}{Q:α->Prop}{w v:World}{es e1:Array Event}{r:Result α×Array Event}(h:Kept (Z:=Z) Q v (es++e1) r)(hs:w.heap.size<=v.heap.size)(he:∀e∈e1,EvOK Z v.heap.size e):Kept (Z:=Z) Q w es r:=fun hY=>b3m.step (h hY) hs he
theorem b0G(w:World)(hW:WP Z w){a:Addr}(hD:Z.D a.block)(s:String):HaltOK (w.noCell a s):=by
 unfold World.noCell;split
 ·rename_i h;cases hW.obj _ _ hD h
 ·trivial
 ·trivial
theorem b1O{w:World}(hW:WP Z w){a:Addr}(hD:Z.D a.block){at_:Bool}{h:Halt}(e:w.farLoad P a at_=.error h):HaltOK h:=by
 unfold World.farLoad at e;split at e
 ·split at e
  ·cases e
  ·injection e with e;subst e;trivial
 ·injection e with e;subst e;exact b0G w hW hD _
theorem a9E{w:World}(hW:WP Z w){a:Addr}(hD:Z.D a.block){at_:Bool}{v:Value}{h:Halt}(e:w.farStore P a v at_=.error h):HaltOK h:=by
 unfold World.farStore at e;split at e
 ·split at e
  ·cases e
  ·injection e with e;subst e;trivial
 ·injection e with e;subst e;exact b0G w hW hD _
theorem Sf.run{α:Type}{Q:α->Prop}{s:Sem α}(h:Sf Z P Q s){w:World}(hW:WP Z w)(es:Array Event):Kept (Z:=Z) Q w es (s.runT P w es):=by
 induction s generalizing w es with
 | halt x=>exact fun _=>⟨h,hW⟩
 | pure x=>exact fun _=>⟨h,hW,Nat.le_refl _,#[],by simp,by simp⟩
 | load m a k ih=>
  obtain⟨hD,hk⟩:=h
  cases hc:w.cell? a with
  | some v=>
   obtain⟨hv,hlt⟩:=hW.cell hD hc;have:=ih v (hk v hv) hW (es++#[⟨.cell a,false,m==.atomic⟩]);simp only[Sem.runT,hc]
   exact Kept.step this (Nat.le_refl _) (by intro e he;simp at he;subst he;exact⟨(fun h=>by cases h),hD,hlt⟩)
  | none=>
   simp only[Sem.runT,hc]
   cases hf:w.farLoad P a (m==.atomic) with
   | error x=>exact fun _=>⟨b1O hW hD hf,hW⟩
   | ok r=>
    obtain⟨v,l⟩:=r;obtain⟨hv,b,hb,hlt,hl⟩:=hW.far hD hf;exact Kept.step (ih v (hk v hv) hW _) (Nat.le_refl _) (by
     intro e he;simp at he;obtain⟨x,hx,rfl⟩:=he
     exact⟨(fun h=>by cases h),hl x hx▸hb,hl x hx▸hlt⟩)
 | store m a v k ih=>
  obtain⟨rfl,hD,hv,hk⟩:=h
  have e1:(Sem.store Mode.plain a v k).runT P w es=(.halt (.stuck "store: not the value of one cell") w,es)\/(Sem.store Mode.plain a v k).runT P w es=match w.cell? a with
   | some _=>if w.frozen? a then(.halt (.unsupported (.unsafePointer "a write to bytes that a string shares")) w,es) else k.runT P (w.setCell a v) (es.push ⟨.cell a,true,Mode.plain==.atomic⟩)
   | none=>match w.farStore P a v (Mode.plain==.atomic) with
    | .ok (w,touched)=>k.runT P w (es++touched.toArray.map (⟨.cell ·,true,Mode.plain==.atomic⟩))
    | .error h=>(.halt h w,es):=by
   cases v<;>first|exact .inl rfl|exact .inr rfl
  rcases e1 with e1|e1
  ·rw[e1];exact fun _=>⟨trivial,hW⟩
  rw[e1]
  cases hc:w.cell? a with
  | some y=>
   obtain⟨_,hlt⟩:=hW.cell hD hc;dsimp only;split
   ·exact fun _=>⟨trivial,hW⟩
   ·have:=ih hk (hW.setCell (a:=a) hv) (es++#[⟨.cell a,true,false⟩]);refine Kept.step this (by simp[World.setCell]) ?_
    intro e he;simp at he;subst he;exact⟨fun _=>rfl,hD,by simpa [World.setCell] using hlt⟩
  | none=>
   dsimp only
   cases hf:w.farStore P a v (Mode.plain==.atomic) with
   | error x=>exact fun _=>⟨a9E hW hD hf,hW⟩
   | ok r=>
    obtain⟨w',l⟩:=r;obtain⟨hw',hs,b,hb,hlt,hl⟩:=hW.farS hD hf;exact Kept.step (ih hk hw' _) (by omega) (by
     intro e he;simp at he;obtain⟨x,hx,rfl⟩:=he
     exact⟨fun _=>rfl,hl x hx▸hb,hs▸hl x hx▸hlt⟩)
 | new o k ih=>
  obtain⟨ho,hk⟩:=h;intro hY;have hy:Z.Y w.heap.size:=hY _ (Nat.lt_of_lt_of_le (by simp) (runT_size P (k w.heap.size) {w with heap:=w.heap.push o} es));revert hY;have:=ih _ (hk _ (hW.fresh _ (Nat.le_refl _) hy)) (hW.new ho) (es++#[]);simp only[Sem.runT];rw[Array.append_empty] at this;refine Kept.step (e1:=#[]) ?_ (v:={w with heap:=w.heap.push o}) (by simp) (by simp)
  simpa using this
 | shape r k ih=>exact ih _ (h _) hW es
 | freeze a n k ih=>
  have:=ih h (hW.freeze a n) es;have hsz:(w.freeze a n).heap.size=w.heap.size:=by unfold World.freeze;split<;>simp
  refine Kept.step (e1:=#[]) (v:=w.freeze a n) ?_ (by omega) (by simp)
  simpa [Sem.runT] using this
 | frozen a k ih=>exact ih _ (h _) hW es
 | getObj r k ih=>
  obtain⟨hD,hk⟩:=h;simp only[Sem.runT]
  cases ho:w.heap[r]? with
  | none=>exact fun _=>⟨trivial,hW⟩
  | some o=>
   have hx:=hW.obj _ _ hD ho;have hlt:r<w.heap.size:=by
    rcases Nat.lt_or_ge r w.heap.size with h|h
    ·exact h
    ·rw[Array.getElem?_eq_none h] at ho;cases ho
   have main:=Kept.step (Z:=Z) (w:=w) (es:=es) (e1:=#[⟨.obj r,false,false⟩]) (ih o (hk o hx) hW _) (Nat.le_refl _) (by intro e he;simp at he;subst he;exact⟨rfl,hD,hlt⟩);rw[Array.append_singleton] at main
   cases hx with
   | cells=>exact fun _=>⟨trivial,hW⟩
   | _=>exact main
 | setObj r o k ih=>
  obtain⟨hD,ho,hk⟩:=h;simp only[Sem.runT]
  cases hx:w.heap[r]? with
  | none=>exact fun _=>⟨trivial,hW⟩
  | some p=>
   have hlt:r<w.heap.size:=by
    rcases Nat.lt_or_ge r w.heap.size with h|h
    ·exact h
    ·rw[Array.getElem?_eq_none h] at hx;cases hx
   have hch:o.isChan=false:=by cases ho<;>rfl
   have main:=Kept.step (Z:=Z) (w:=w) (es:=es) (e1:=#[⟨.obj r,true,false⟩]) (ih hk (hW.setObj (r:=r) ho) _) (by simp) (by intro e he;simp at he;subst he;exact⟨rfl,hD,by simpa using hlt⟩);rw[Array.append_singleton] at main;rw[hch]
   cases p<;>first|exact fun _=>⟨trivial,hW⟩|exact main
 | choose q k ih=>
  simp only[Sem.runT];split
  ·exact ih _ (h _) hW es
  ·have:=ih _ (h (q.cut (w.tape w.drawn q))) (w:={w with drawn:=w.drawn+1}) ⟨hW.fresh,hW.obj⟩ (es++#[]);refine Kept.step (e1:=#[]) (v:={w with drawn:=w.drawn+1}) ?_ (by simp) (by simp)
   simpa using this
 | sys c k ih=>
  simp only[Sem.runT];have hh:=World.sys_heap w c;have:=ih _ (h.2 (w.sys c).1) (w:=(w.sys c).2) ⟨fun b hb hy=>hW.fresh b (by rw[hh] at hb;exact hb) hy,fun b o hD hb=>hW.obj b o hD (by rw[hh] at hb;exact hb)⟩ (es++#[⟨.output,true,false⟩]);rw[Array.append_singleton] at this;refine Kept.step (e1:=#[⟨.output,true,false⟩]) (v:=(w.sys c).2) ?_ (by rw[hh];exact Nat.le_refl _) (by intro e he;simp at he;subst he;rfl)
  rw[Array.append_singleton];exact this
 | program k ih=>exact ih P h hW es
 | mark m k ih=>
  have:=ih h.2 hW (es++#[⟨.mark m,false,true⟩]);refine Kept.step (e1:=#[⟨.mark m,false,true⟩]) (v:=w) ?_ (Nat.le_refl _) (by intro e he;simp at he;subst he;exact h.1);rw[Array.append_singleton] at this⊢;simpa [Sem.runT] using this
end
end Go.Zn
