/- A part of what the last file proves. -/
import Derived.Test.YtgpbhjjajpbeeaaGreatDoorO18
set_option linter.all false
set_option maxRecDepth 100000
open Go.Proofs.Tryz
namespace Go.Proofs.YtgpbhjjajpbeeaaGreatDoor
section
open Go.RowKit Go.Conc Go.Conc.Lib Go.Mw Go.To
open Go.ConcN (WgLive)
open Go.ConcR (WgAt)
open Zn (tp)
open Go.Mc (Pz jY R0 D0 W0 Spawns Fin kY kS Works)
set_option linter.unusedSectionVars false
variable[Go.ConcR.Payload]
abbrev PE:Oper:={dst:=some 12,op:=.alloc 143,type:=0,pos:= "keydir.go:115",after:=#[],guard:=none}
abbrev PD:Oper:={dst:=some 13,op:=.alloc 149,type:=0,pos:= "keydir.go:116",after:=#[],guard:=none}
abbrev zZ:Array Oper:=#[{dst:=some 70,op:=.load 128 (.tmp 6),type:=128,pos:= "keydir.go:117",after:=#[],guard:=none},
 {dst:=some 71,op:=.call {callee:=.builtin .len,args:=#[.tmp 70],argTypes:=#[128]},type:=3,pos:= "keydir.go:117",after:=#[{on:=0,ground:=.data}],guard:=none},
 {dst:=some 72,op:=.move (.const (.int .i64 0)),type:=3,pos:= "keydir.go:117",after:=#[],guard:=none}]
theorem C3:I9 6=.seq (.region 16 #[PE] false) (I9 7):=by kernel_rfl
theorem CL:I9 7=.seq (.region 17 #[PD] false) (I9 8):=by kernel_rfl
theorem CE:I9 8=.seq (.seq (.region 18 zZ false) (.block 2 (.loop Z9))) (I9 9):=by kernel_rfl
theorem tR(ρ:Operand->Value)(w:World):(execOp ρ PE).run prog w=.ok (.value (.pointer (some ⟨w.heap.size,0,none⟩))) (w.alloc (.cells #[.int .i64 0] 143))/\(execOp ρ PE).events prog w #[]=#[]:=by
 constructor<;>simp[go_sem]
theorem tQ(ρ:Operand->Value)(w:World):(execOp ρ PD).run prog w=.ok (.value (.pointer (some ⟨w.heap.size,0,none⟩))) (w.alloc (.cells #[.int .u64 0,.int .u32 0] 149))/\(execOp ρ PD).events prog w #[]=#[]:=by
 constructor<;>simp[go_sem]
theorem zm{ρ:Operand->Value}{a:Option Addr}{n c:Nat}(h:ρ (.tmp 70)=.slice a n c)(w:World):(execOp ρ zZ[1]).run prog w=.ok (.value (.int .i64 n)) w/\(execOp ρ zZ[1]).events prog w #[]=#[]:=by
 constructor<;>simp[go_sem,h]
theorem b8f{ρ:Operand->Value}{ad:Addr}{v:Value}(h:ρ (.tmp 6)=.pointer (some ad)){w:World}(hc:w.cell? ad=some v):(execOp ρ zZ[0]).run prog w=.ok (.value v) w/\(execOp ρ zZ[0]).events prog w #[]=#[⟨.cell ad,false,false⟩]:=by
 constructor<;>simp[go_sem,h,hc]
section
variable{P:Program}{B:Nat}{b:Frame}{a:Act}{k:List Item}{cs:List Frame}{w:World}{Sh:Nat->Prop}{Ψ:Goroutine->World->(Nat->Prop)->Prop}
theorem zj[To.Lo]{ops:Array Oper}{i:Nat}{rest:List Nat}{o:Oper}(ho:ops[i]?=some o)(hw:Region.wanted o (yielded ops a.tmps)=true)(hk:b.kind≠.early)(he:∀w,(execOp a.eval o).events P w #[]=#[])
 (h:∀τ p,∃v w',(execOp a.eval o).run P (tp w τ p)=.ok (.value v) w'/\mG P B (G (b.at (a.put o.dst v) (.inRegion ops rest::k)) cs) w' Sh Ψ):mG P B (G (b.at a (.inRegion ops (i::rest)::k)) cs) w Sh Ψ:=by
 refine mG.step rfl λτ p=>?_;obtain⟨v,w',h1,h2⟩:=h τ p;refine⟨_,w',_,B,stepG_value ho hw hk h1,aj _,?_,h2⟩;rw[show listed P b.fn a o (tp w τ p)=#[] by unfold listed;rw[he];exact seen_none _ _];simp
end
section
variable{Z:Pz}{j:Nat}{Next Next':Option Nat->Goroutine->World->Prop}{x:Option Nat}{g:Goroutine}{w:World}{A A':Goroutine->World->Prop}
open Mc
theorem b5b(h:∀x g w,Next x g w->Next' x g w)(k:AtGoS Z j Next x g w):AtGoS Z j Next' x g w:=let ⟨a,b,g',c,h1,h2,h3,h4,h5⟩:=k;⟨a,b,g',c,h1,h2,h3,h4,h _ _ _ h5⟩
theorem b5c(h:∀x g w,Next x g w->Next' x g w)(k:AtKeS Z j Next x g w):AtKeS Z j Next' x g w:=let ⟨a,g',b,c⟩:=k;⟨a,g',b,Z8 (λ_ _ _=>b5b h) c⟩
theorem b8g(h:∀x g w,Next x g w->Next' x g w)(k:AtA1 Z j Next x g w):AtA1 Z j Next' x g w:=let ⟨a,b⟩:=k;⟨a,λv hv hw=>let ⟨g',c,d⟩:=b v hv hw;⟨g',c,Z8 (λ_ _ _=>b5c h) d⟩⟩
theorem b5d(h:∀x g w,Next x g w->Next' x g w)(k:AtKdS Z j Next x g w):AtKdS Z j Next' x g w:=let ⟨a,g',b,c⟩:=k;⟨a,g',b,Z8 (λ_ _ _=>b8g h) c⟩
theorem b3F(h:∀g w,A g w->A' g w):∀(r:Nat)(x:Option Nat)(g:Goroutine)(w:World),Spawns Z (Fin Z A) r x g w->Spawns Z (Fin Z A') r x g w:=by
 intro r
 induction r with
 | zero=>exactλx g w⟨a,b⟩=>⟨a,Z8 (λ_ _ _=>KV h) b⟩
 | succ r ih=>exactλx g w k=>Z8 (Stop:=AtKdS Z (Z.n - (r+1)) (Spawns Z (Fin Z A) r)) (λ_ _ _=>b5d ih) k
end
noncomputable def nS(w:World)(Sh:Nat->Prop)(Cb fb:Nat)(v0:Value)(n:Nat)(kG:Nat->Nat->(Nat->Prop)->World->Prop):Pz:=
 {P:=prog,ty:=149,Wg:=w.heap.size+1,Al:=w.heap.size,Wx:=143,Cb:=Cb,Fe:=154,c:=0,n:=n,L0:=w.heap.size+2,lN:=λb=>b<w.heap.size/\b≠Cb/\¬Sh b,wS:=Sh,kG:=kG,e0:=fb,v0:=v0}
section
variable{Z:Pz}{c d:Nat}{T0:Array Value}{V4 V6 jE:Value}{K:List Item}{cs:List Frame}{x:Option Nat}{w w':World}{g:Goroutine}
theorem c3B(h:R0 (at_ Z c) x w w'):R0 (at_ Z d) x w w':=⟨h.size,h.iP,h.cur,h.live,h.xP⟩
theorem ZE{T:Array Value}{j:Nat}(h:Lay (at_ Z c) T0 V4 V6 jE T j):Lay (at_ Z d) T0 V4 V6 jE T j:=⟨h.size,h.t4,h.t6,h.t11,h.t12,h.t13,h.t71,h.t72,h.keep⟩
theorem br{nD:World}(h:CG (at_ Z c) nD T0 V4 V6 jE K cs g w):CG (at_ Z d) nD T0 V4 V6 jE K cs g w:=by
 obtain⟨T,h1,T',h2,h3,h4,h5⟩:=h;exact⟨T,ZE h1,T',h2,h3,h4,c3B h5.1,h5.2⟩
theorem b8h(h:Tj (at_ Z c) T0 V4 V6 jE K cs g w):Tj (at_ Z d) T0 V4 V6 jE K cs g w:=let ⟨T,h1,h2⟩:=h;⟨T,ZE h1,h2⟩
end
section
variable{w:World}{Sh:Nat->Prop}{Cb fb n:Nat}{fa:Option Addr}{fc:Nat}{kG:Nat->Nat->(Nat->Prop)->World->Prop}{V4 jE:Value}{K:List Item}{cs:List Frame}{T:Array Value}{Ψ:Goroutine->World->(Nat->Prop)->Prop}
theorem tP{v0:Value}(hSh:∀b,Sh b->b<w.heap.size)(OJ:Cb<w.heap.size)(Gi:¬Sh Cb)(hfb:fb<w.heap.size)(Gh:¬Sh fb)(hne:fb≠Cb)
 (hres:∀i bx O w1 w2,w1.heap.size<=w2.heap.size->w2.heap[bx]?=w1.heap[bx]?->(∀b,O b->w2.heap[b]?=w1.heap[b]?)->(∀k,Mc.iT i k->w2.cell? ⟨Cb,k,none⟩=w1.cell? ⟨Cb,k,none⟩)->kG i bx O w1->kG i bx O w2){c:Nat}(hc:0<c):jY (at_ (nS w Sh Cb fb v0 n kG) c):=by
 refine⟨hc,?_,?_,?_,?_,?_,?_,?_,?_,?_,hres⟩
 ·show w.heap.size+1≠w.heap.size;omega
 ·show w.heap.size+1≠Cb;omega
 ·show w.heap.size≠Cb;omega
 ·show w.heap.size+1<w.heap.size+2;omega
 ·show w.heap.size<w.heap.size+2;omega
 ·show Cb<w.heap.size+2;omega
 ·rintro b ⟨h1,h2,h3⟩;exact⟨show b<w.heap.size+2 by omega,show b≠w.heap.size+1 by omega,show b≠w.heap.size by omega,h2,h3⟩
 ·intro b (h:Sh b);have:=hSh b h;exact⟨show b<w.heap.size+2 by omega,show b≠w.heap.size+1 by omega,show b≠w.heap.size by omega,λe=>Gi (by have e':b=Cb:=e;exact e'▸h)⟩
 ·exact⟨hfb,hne,Gh⟩
theorem b5e[To.Lo](hSh:∀b,Sh b->b<w.heap.size)(hfb:w.heap[fb]?=some (.cells #[.slice fa n fc] 128))(Gh:¬Sh fb)(OJ:∃cs0:Array Value,w.heap[Cb]?=some (.cells cs0 154)/\cs0.size=2*n)(Gi:¬Sh Cb)(hne:fb≠Cb)(hn:n<2147483648)
 (hres:∀i bx O w1 w2,w1.heap.size<=w2.heap.size->w2.heap[bx]?=w1.heap[bx]?->(∀b,O b->w2.heap[b]?=w1.heap[b]?)->(∀k,Mc.iT i k->w2.cell? ⟨Cb,k,none⟩=w1.cell? ⟨Cb,k,none⟩)->kG i bx O w1->kG i bx O w2)
 (hT:T.size=118)(h4:T[4]?=some V4)(h6:T[6]?=some (.pointer (some ⟨fb,0,none⟩)))(h11:T[11]?=some jE)
 (tq:∀c i b w',0<c->i<n->w.heap.size+2<=b->(∀e,e<w.heap.size->e≠Cb->¬Tr Sh e->w'.heap[e]?=w.heap[e]?)->w'.heap[b]?=some (.cells #[.int .i64 i] 3)->kY (nS w (Tr Sh) Cb fb (.slice fa n fc) n kG) w'->kS (nS w (Tr Sh) Cb fb (.slice fa n fc) n kG) w'->
   WgLive 149 (w.heap.size+1) w'->Works (at_ (nS w (Tr Sh) Cb fb (.slice fa n fc) n kG) c) i b (born prog (Tf (nS w (Tr Sh) Cb fb (.slice fa n fc) n kG) V4 (.pointer (some ⟨fb,0,none⟩)) jE b)) w')
 (hnext:∀(w':World)(T':Array Value)(O:Nat->Nat->Prop)(bx:Nat->Nat),Lay (nS w (Tr Sh) Cb fb (.slice fa n fc) n kG) T V4 (.pointer (some ⟨fb,0,none⟩)) jE T' n->(∀e,e<w.heap.size->e≠Cb->w'.heap[e]?=w.heap[e]?)->(∀i,i<n->kG i (bx i) (O i) w')->
   (∀i b,O i b->w.heap.size+2<=b/\b<w'.heap.size)->(∀i k b,O i b->O k b->i=k)->kY (nS w (Tr Sh) Cb fb (.slice fa n fc) n kG) w'->kS (nS w (Tr Sh) Cb fb (.slice fa n fc) n kG) w'->w.heap.size+2<=w'.heap.size->w'.os=w.os->w'.output=w.output->
   ∃Sh':Nat->Prop,(∀b,Sh b->Sh' b)/\Sh' (w.heap.size+1)/\To prog (G (joined T' K) cs) w' Sh' Ψ):
 To prog (G ((base 14).at ⟨T,[]⟩ (.code (I9 6)::K)) cs) w Sh Ψ:=by
 have hfl:fb<w.heap.size:=Bi.lt_of_some hfb;obtain⟨cs0,OI,hcs0⟩:=OJ;have yI:¬Tr Sh fb:=λhs=>Gh hs.2;have sH:Cb<w.heap.size:=Bi.lt_of_some OI;rw[C3];refine mG.move rfl (λ_=>stepG_seq) (mG.move rfl (λ_=>stepG_region) ?_);refine zj (i:=0) (rest:=[]) (o:=PE) rfl rfl (by decide) (λw=>(tR _ w).2) λτ p=>⟨_,tp (w.alloc (.cells #[.int .i64 0] 143)) τ p,(tR _ _).1,mG.fZ ?_⟩;have eT:Act.put ⟨T,[]⟩ PE.dst (.pointer (some ⟨(tp w τ p).heap.size,0,none⟩))=⟨T.setIfInBounds 12 (.pointer (some ⟨w.heap.size,0,none⟩)),[]⟩:=rfl;rw[eT];clear eT;have t12:(T.setIfInBounds 12 (.pointer (some ⟨w.heap.size,0,none⟩)))[12]?=some (.pointer (some ⟨w.heap.size,0,none⟩)):=wO (by omega);have t4:=C9 (u:=.pointer (some ⟨w.heap.size,0,none⟩)) (j:=12) h4 (by decide);have t6:=C9 (u:=.pointer (some ⟨w.heap.size,0,none⟩)) (j:=12) h6 (by decide);have t11:=C9 (u:=.pointer (some ⟨w.heap.size,0,none⟩)) (j:=12) h11 (by decide);have hs1:(T.setIfInBounds 12 (.pointer (some ⟨w.heap.size,0,none⟩))).size=118:=by simp[hT]
 have kp:=Qr (T:=T) (T0:=T) (λ_ _=>rfl) 12 (by decide) (.pointer (some ⟨w.heap.size,0,none⟩));generalize T.setIfInBounds 12 (.pointer (some ⟨w.heap.size,0,none⟩))=T1 at t12 t4 t6 t11 hs1 kp⊢;have z1:=JX w (.cells #[.int .i64 0] 143);have n1:=Zc w (.cells #[.int .i64 0] 143);have o1:=λb=>JQ w (.cells #[.int .i64 0] 143) (b:=b);have os1:(w.alloc (.cells #[.int .i64 0] 143)).os=w.os:=rfl;have Xb:(w.alloc (.cells #[.int .i64 0] 143)).output=w.output:=rfl;generalize w.alloc (.cells #[.int .i64 0] 143)=w1 at z1 n1 o1 os1 Xb⊢;rw[CL];refine mG.move rfl (λ_=>stepG_region_end) (mG.move rfl (λ_=>stepG_seq) (mG.move rfl (λ_=>stepG_region) ?_));refine zj (i:=0) (rest:=[]) (o:=PD) rfl rfl (by decide) (λw=>(tQ _ w).2) λτ p=>⟨_,tp (w1.alloc (.cells #[.int .u64 0,.int .u32 0] 149)) τ p,(tQ _ _).1,mG.fZ ?_⟩;have eT:Act.put ⟨T1,[]⟩ PD.dst (.pointer (some ⟨(tp w1 τ p).heap.size,0,none⟩))=⟨T1.setIfInBounds 13 (.pointer (some ⟨w1.heap.size,0,none⟩)),[]⟩:=rfl;rw[eT];clear eT;rw[z1];have t13:(T1.setIfInBounds 13 (.pointer (some ⟨w.heap.size+1,0,none⟩)))[13]?=some (.pointer (some ⟨w.heap.size+1,0,none⟩)):=wO (by omega);replace t4:=C9 (u:=.pointer (some ⟨w.heap.size+1,0,none⟩)) (j:=13) t4 (by decide);replace t6:=C9 (u:=.pointer (some ⟨w.heap.size+1,0,none⟩)) (j:=13) t6 (by decide);replace t11:=C9 (u:=.pointer (some ⟨w.heap.size+1,0,none⟩)) (j:=13) t11 (by decide);replace t12:=C9 (u:=.pointer (some ⟨w.heap.size+1,0,none⟩)) (j:=13) t12 (by decide);replace hs1:(T1.setIfInBounds 13 (.pointer (some ⟨w.heap.size+1,0,none⟩))).size=118:=by simp[hs1]
 replace kp:=Qr kp 13 (by decide) (.pointer (some ⟨w.heap.size+1,0,none⟩));generalize T1.setIfInBounds 13 (.pointer (some ⟨w.heap.size+1,0,none⟩))=T2 at t13 t12 t4 t6 t11 hs1 kp⊢;have z2:=JX w1 (.cells #[.int .u64 0,.int .u32 0] 149);have n2:=Zc w1 (.cells #[.int .u64 0,.int .u32 0] 149);have o2:=λb=>JQ w1 (.cells #[.int .u64 0,.int .u32 0] 149) (b:=b);have os2:(w1.alloc (.cells #[.int .u64 0,.int .u32 0] 149)).os=w1.os:=rfl;have Xa:(w1.alloc (.cells #[.int .u64 0,.int .u32 0] 149)).output=w1.output:=rfl;generalize w1.alloc (.cells #[.int .u64 0,.int .u32 0] 149)=w2 at z2 n2 o2 os2 Xa⊢;rw[z1] at n2;have old:∀b,b<w.heap.size->w2.heap[b]?=w.heap[b]?:=λb hb=>(o2 b (by omega)).trans (o1 b hb);have hAl:w2.heap[w.heap.size]?=some (.cells #[.int .i64 0] 143):=(o2 _ (by omega)).trans n1;have hsz:w2.heap.size=w.heap.size+2:=by omega
 have hos:w2.os=w.os:=os2.trans os1;have hou:w2.output=w.output:=Xa.trans Xb;clear os1 Xb os2 Xa z1 n1 o1 z2 o2 w1 T1;rw[CE];refine mG.move rfl (λ_=>stepG_region_end) (mG.move rfl (λ_=>stepG_seq) ?_);have hZ:=λc hc=>tP (w:=w) (Sh:=Tr Sh) (Cb:=Cb) (fb:=fb) (n:=n) (kG:=kG) (v0:=.slice fa n fc) (λb hb=>hSh b hb.2) sH (λhs=>Gi hs.2) hfl yI hne hres (c:=c) hc;have hwg:WgAt 149 (w.heap.size+1) w2 0 0:=n2;refine mG.phase (Z:=nS w (Tr Sh) Cb fb (.slice fa n fc) n kG) (Sh:=Sh) (B:=w.heap.size) (Cont:=Tj (at_ (nS w (Tr Sh) Cb fb (.slice fa n fc) n kG) 1) T V4 (.pointer (some ⟨fb,0,none⟩)) jE K cs)
  (AnchW:=λg w'=>∃nD,CG (at_ (nS w (Tr Sh) Cb fb (.slice fa n fc) n kG) 1) nD T V4 (.pointer (some ⟨fb,0,none⟩)) jE K cs g w') rfl hZ hn rfl (by show w.heap.size<=w.heap.size+2;omega) (by show w.heap.size<=w.heap.size+1;omega) (aj _)
  (by show w.heap.size+2<=_;omega) ⟨0,hAl⟩ ⟨cs0,(old _ sH).trans OI,hcs0⟩ hwg (λg w⟨_,h⟩=>b8b g w h) ?_ ?_ ?_
 ·rintro c hc x g w' ⟨nD,h⟩;exact Z8 (λy g w=>K1 (λg w=>b8h) λg w h=>⟨nD,br h⟩) (b8c (hZ c hc) rfl rfl g w' (br h))
 ·intro c τ p hc;have Gg:=hZ c hc;have hKn:Kn (at_ (nS w (Tr Sh) Cb fb (.slice fa n fc) n kG) c) none (tp w2 τ p) (tp w2 τ p):=⟨Mc.R0.refl _ _ _,⟨0,0,hwg⟩⟩;have t70:(T2.setIfInBounds 70 (.slice fa n fc))[70]?=some (.slice fa n fc):=wO (by omega);have hl:Lay (at_ (nS w (Tr Sh) Cb fb (.slice fa n fc) n kG) c) T V4 (.pointer (some ⟨fb,0,none⟩)) jE (((T2.setIfInBounds 70 (.slice fa n fc)).setIfInBounds 71 (.int .i64 n)).setIfInBounds 72 (.int .i64 0)) 0:=by
   refine⟨by simp[hs1],?_,?_,?_,?_,?_,?_,?_,Qr (Qr (Qr kp 70 (by decide) _) 71 (by decide) _) 72 (by decide) _⟩
   ·exact C9 (C9 (C9 t4 (by decide)) (by decide)) (by decide)
   ·exact C9 (C9 (C9 t6 (by decide)) (by decide)) (by decide)
   ·exact C9 (C9 (C9 t11 (by decide)) (by decide)) (by decide)
   ·exact C9 (C9 (C9 t12 (by decide)) (by decide)) (by decide)
   ·exact C9 (C9 (C9 t13 (by decide)) (by decide)) (by decide)
   ·exact C9 (wO (by simp[hs1])) (by decide)
   ·exact wO (by simp[hs1])
  have hh:=b8e (K:=K) (cs:=cs) Gg rfl rfl hn (nD:=tp w2 τ p) (T0:=T) (V4:=V4) (V6:=.pointer (some ⟨fb,0,none⟩)) (jE:=jE) (by show w.heap.size+2<=w2.heap.size;omega)
   (λi b w' hi hb hr hbx hal hcb hlv=>tq c i b w' hc hi hb (λe h1 h2 h3=>(hr.iP e ⟨h1,h2,h3⟩).trans (old e h1)) hbx hal hcb hlv) n 0 _ (tp w2 τ p) (n_ n) hl hKn
  refine b3F (λg w h=>⟨tp w2 τ p,br h⟩) _ _ _ _ (Vi (λStop hk=>?_) hh);clear hh;refine N9 rfl (λ_=>stepG_seq) (N9 rfl (λ_=>stepG_region) ?_);refine sR (i:=0) (rest:=[1,2]) (o:=zZ[0]) rfl rfl (by decide) λw₁ h₁=>?_;have hfw:w₁.heap[fb]?=some (.cells #[.slice fa n fc] 128):=(h₁.iP fb ⟨hfl,hne,yI⟩).trans ((old fb hfl).trans hfb);have hcell:w₁.cell? ⟨fb,0,none⟩=some (.slice fa n fc):=by simp[World.cell?,hfw]
  have hld:=b8f (L8 (ds:=[]) t6) hcell;refine⟨_,w₁,none,hld.1,⟨aj _,rfl,rfl,rfl,λ_ _ _=>rfl,.inl rfl,?_⟩,?_⟩
  ·rw[show listed (at_ (nS w (Tr Sh) Cb fb (.slice fa n fc) n kG) c).P (base 14).fn ⟨T2,[]⟩ zZ[0] w₁=#[⟨.cell ⟨fb,0,none⟩,false,false⟩] by show listed prog (base 14).fn ⟨T2,[]⟩ zZ[0] w₁=_;unfold listed;rw[hld.2,seen_eq tU (by simp)]];intro e he;rw[sF] at he;subst he;exact⟨Bi.lt_of_some hfw,rfl,.inl ⟨⟨hfl,hne,yI⟩,rfl⟩⟩
  ·replace hk:=AS hk h₁;refine Hw (i:=1) (rest:=[2]) (o:=zZ[1]) rfl rfl (by decide) (λw=>(zm (L8 (ds:=[]) t70) w).1) (λw=>(zm (L8 (ds:=[]) t70) w).2) ?_;refine Hw (i:=2) (rest:=[]) (o:=zZ[2]) (v:=.int .i64 0) rfl rfl (by decide) (λw=>rfl) (λw=>rfl) ?_;exact N9 rfl (λ_=>stepG_region_end) (N9 rfl (λ_=>stepG_block) (N9 rfl (λ_=>stepG_loop) hk))
 ·intro w' g' O bx ⟨T',hT',hm⟩ he hr hO hd hal hcb hL0 Xx Xw;have hel:∀e,e<w.heap.size->e≠Cb->w'.heap[e]?=w.heap[e]?:=λe h1 h2=>(he e ((Classical.em (Tr Sh e)).symm.imp (λh3=>⟨h1,h2,h3⟩) id)).trans (old e h1);obtain⟨Sh',h1,h2,h3⟩:=hnext w' T' O bx (ZE (c:=1) (d:=0) hT') hel hr hO hd hal hcb hL0 (Xx.trans hos) (Xw.trans hou);exact⟨Sh',h1,h2,N1 hm h3⟩
end
end
section
open Go.RowKit Go.Conc Go.Conc.Lib Go.Mw Go.Mc Go.Bi
open Go.ConcN (WgLive Has AtR0)
open Pl
open Zn (ext low kk Gr K0 Nx Full tp jh Zf)
open To (at_)
set_option linter.unusedSectionVars false
variable[Go.ConcR.Payload]
structure Ph(w:World)(Sh:Nat->Prop)(Cb fb rb n fc mb sx sb ic c1 c2:Nat)(ids:List Int)(bss:List (List UInt8))(DB:Nat->Prop):Prop where
 W:jh zone Sh w
 gl:prog.globals.size<=w.heap.size
 hn:n<2147483648/\n<=fc/\n<=c1/\(0<n->n<=c2)
 pT:w.heap[fb]?=some (.cells #[.slice (some ⟨rb,0,none⟩) n fc] 128)
 IB:DB fb
 hDB:∀b,DB b->prog.globals.size<=b/\b<w.heap.size/\b≠Cb/\¬Sh b/\∃c e fr,w.heap[b]?=some (.cells c e fr)/\∀v∈c,Plain DB v
 files:∀i,i<n->∃v,w.cell? ⟨rb,i,none⟩=some v/\Bytes w v (bss.getD i [])/\(bss.getD i []).length<=1099511627776
 hmb:mb<w.heap.size/\mb≠Cb/\¬Sh mb/\(0<n->w.cell? ⟨mb,1,none⟩=some (.slice (some ⟨ic,0,none⟩) n c2))
 hsx:sx<w.heap.size/\sx≠Cb/\¬Sh sx/\w.cell? ⟨sx,0,none⟩=some (.pointer (some ⟨sb,0,none⟩))
 hsb:sb<w.heap.size/\sb≠Cb/\¬Sh sb/\w.cell? ⟨sb,3,none⟩=some (.slice (some ⟨Cb,0,none⟩) n c1)
 hic:0<n->ic<w.heap.size/\ic≠Cb/\¬Sh ic/\∀i,i<n->w.cell? ⟨ic,i,none⟩=some (.int .i64 (ids.getD i 0))
 hcb:¬Sh Cb/\∃cs0:Array Value,w.heap[Cb]?=some (.cells cs0 154)/\cs0.size=2*n
def uP(w:World)(Sh:Nat->Prop)(Cb:Nat)(ids:List Int)(bss:List (List UInt8))(i bx:Nat)(O:Nat->Prop)(w':World):Prop:=
 w'.cell? ⟨Cb,2*i,none⟩=some (.int .i64 (ids.getD i 0))/\
 (∃u,w'.cell? ⟨Cb,2*i+1,none⟩=some u/\oG w' 160 7 u (N7 (bss.getD i [])).length ((N7 (bss.getD i [])).flatMap (P7 i))/\∀g,u.ownBlock=some g->O g)/\
 (∀b,O b->∃o,w'.heap[b]?=some o/\Zn.fK {zone with D:=λb=>(b<w.heap.size/\b≠Cb/\¬Sh b)\/b=bx\/O b} o)/\w.heap.size+2<=bx/\w'.heap[bx]?=some (.cells #[.int .i64 i] 3)
theorem Ix{w:World}{Sh:Nat->Prop}{Cb:Nat}{ids:List Int}{bss:List (List UInt8)}:∀i bx O(w1 w2:World),w1.heap.size<=w2.heap.size->w2.heap[bx]?=w1.heap[bx]?->(∀b,O b->w2.heap[b]?=w1.heap[b]?)->(∀k,iT i k->w2.cell? ⟨Cb,k,none⟩=w1.cell? ⟨Cb,k,none⟩)->uP w Sh Cb ids bss i bx O w1->uP w Sh Cb ids bss i bx O w2:=by
 rintro i bx O w1 w2 _ h2 h3 h4 ⟨a1,⟨u,a2,a3,a4⟩,a5,a6,a7⟩;exact⟨(h4 _ (.inl rfl)).trans a1,⟨u,(h4 _ (.inr rfl)).trans a2,a3.keep λg hg=>h3 g (a4 g hg),a4⟩,λb hb=>let ⟨o,h5,h6⟩:=a5 b hb;⟨o,(h3 b hb).trans h5,h6⟩,a6,h2.trans a7⟩
abbrev YG:Oper:={dst:=none,op:=.defer {callee:=.value (.func 60),args:=#[.tmp 0],argTypes:=#[149]},type:=0,pos:= "keydir.go:120",after:=#[],guard:=none}
theorem b7Z:sN 0=.seq (.region 0 #[YG] false) (sN 1):=by kernel_rfl
theorem b70:sN 1=.seq jB (sN 2):=by kernel_rfl
theorem b71{w:World}{Sh St:Nat->Prop}(hSt:∀b,St b->Sh b){Cb fb rb n fc mb sx sb ic c1 c2:Nat}{ids:List Int}{bss:List (List UInt8)}{DB:Nat->Prop}(h:Ph w Sh Cb fb rb n fc mb sx sb ic c1 c2 ids bss DB){c i b:Nat}{w':World}(hc:0<c)(hi:i<n)(hb:w.heap.size+2<=b)
 (XK:∀e,e<w.heap.size->e≠Cb->¬St e->w'.heap[e]?=w.heap[e]?)(hbx:w'.heap[b]?=some (.cells #[.int .i64 i] 3))(hal:kY (nS w St Cb fb (.slice (some ⟨rb,0,none⟩) n fc) n (uP w Sh Cb ids bss)) w')(hcb:kS (nS w St Cb fb (.slice (some ⟨rb,0,none⟩) n fc) n (uP w Sh Cb ids bss)) w')(hlv:WgLive 149 (w.heap.size+1) w'):
 Works (at_ (nS w St Cb fb (.slice (some ⟨rb,0,none⟩) n fc) n (uP w Sh Cb ids bss)) c) i b (born prog (Tf (nS w St Cb fb (.slice (some ⟨rb,0,none⟩) n fc) n (uP w Sh Cb ids bss)) (.pointer (some ⟨mb,0,none⟩)) (.pointer (some ⟨fb,0,none⟩)) (.pointer (some ⟨sx,0,none⟩)) b)) w':=by
 obtain⟨hCS,cs0,hC0,hCs⟩:=h.hcb;have sH:Cb<w.heap.size:=Bi.lt_of_some hC0;obtain⟨t8,df2,Pn,JA,-⟩:=h.hDB fb h.IB;have hZ:jY (at_ (nS w St Cb fb (.slice (some ⟨rb,0,none⟩) n fc) n (uP w Sh Cb ids bss)) c):=tP (λb hb=>h.W.sh b (hSt b hb)) sH (λhs=>hCS (hSt _ hs)) df2 (λhs=>JA (hSt _ hs)) Pn Ix hc;have hL0:(at_ (nS w St Cb fb (.slice (some ⟨rb,0,none⟩) n fc) n (uP w Sh Cb ids bss)) c).L0=w.heap.size+2:=rfl;have rM:∀e,(e<w.heap.size/\e≠Cb/\¬Sh e)->(at_ (nS w St Cb fb (.slice (some ⟨rb,0,none⟩) n fc) n (uP w Sh Cb ids bss)) c).lN e:=λe he=>⟨he.1,he.2.1,λhs=>he.2.2 (hSt e hs)⟩;have hel:∀e,e<w.heap.size->e≠Cb->¬Sh e->w'.heap[e]?=w.heap[e]?:=λe h1 h2 h3=>XK e h1 h2 λhs=>h3 (hSt e hs);obtain⟨Z,uK⟩:∃Z,Z=at_ (nS w St Cb fb (.slice (some ⟨rb,0,none⟩) n fc) n (uP w Sh Cb ids bss)) c:=⟨_,rfl⟩;have zP:Z.P=prog:=by rw[uK];rfl
 have zt:Z.ty=149:=by rw[uK];rfl
 have zC:(3:TypeId)≠Z.Fe:=by rw[uK];show(3:Nat)≠154;decide
 have zn:Z.n=n:=by rw[uK];rfl
 have Wp:Z.Cb=Cb:=by rw[uK];rfl
 have kh:Z.Wg=w.heap.size+1:=by rw[uK];rfl
 have kq:Z.Al=w.heap.size:=by rw[uK];rfl
 have kg:Z.e0=fb:=by rw[uK];rfl
 have j0:Z.v0=.slice (some ⟨rb,0,none⟩) n fc:=by rw[uK];rfl
 have zR:Z.kG=uP w Sh Cb ids bss:=by rw[uK];rfl
 have Ec:Tf (nS w St Cb fb (.slice (some ⟨rb,0,none⟩) n fc) n (uP w Sh Cb ids bss)) (.pointer (some ⟨mb,0,none⟩)) (.pointer (some ⟨fb,0,none⟩)) (.pointer (some ⟨sx,0,none⟩)) b =
  {target:=.fn (.func 59) #[.pointer (some ⟨w.heap.size+1,0,none⟩),.pointer (some ⟨b,0,none⟩),.pointer (some ⟨fb,0,none⟩),.pointer (some ⟨mb,0,none⟩),.pointer (some ⟨sx,0,none⟩),.pointer (some ⟨w.heap.size,0,none⟩)],args:=#[]}:=rfl
 rw[Ec];have ks:kY Z w':=by rw[uK];exact hal
 have km:kS Z w':=by rw[uK];exact hcb
 rw[<-uK] at hZ hL0 rM⊢;clear hal hcb Ec;clear uK;have hbl:b<w'.heap.size:=Bi.lt_of_some hbx;have hN0:Nw Z (λ_=>False) w':=λ_ h=>h.elim;unfold Works;refine CU hN0 rfl (λw=>by rw[zP];exact born_step _ w) ?_;have e29:(29:Nat) - (#[.pointer (some ⟨w.heap.size+1,0,none⟩),.pointer (some ⟨b,0,none⟩),.pointer (some ⟨fb,0,none⟩),.pointer (some ⟨mb,0,none⟩),.pointer (some ⟨sx,0,none⟩),.pointer (some ⟨w.heap.size,0,none⟩)]:Array Value).size=23:=rfl;rw[e29,b7Z];have eT:(#[.pointer (some ⟨w.heap.size+1,0,none⟩),.pointer (some ⟨b,0,none⟩),.pointer (some ⟨fb,0,none⟩),.pointer (some ⟨mb,0,none⟩),.pointer (some ⟨sx,0,none⟩),.pointer (some ⟨w.heap.size,0,none⟩)]:Array Value)++Array.replicate 23 undef=#[.pointer (some ⟨w.heap.size+1,0,none⟩),.pointer (some ⟨b,0,none⟩),.pointer (some ⟨fb,0,none⟩),.pointer (some ⟨mb,0,none⟩),.pointer (some ⟨sx,0,none⟩),.pointer (some ⟨w.heap.size,0,none⟩),undef,undef,undef,undef,undef,undef,undef,undef,undef,undef,undef,undef,undef,undef,undef,undef,undef,undef,undef,undef,undef,undef,undef]:=by
  simp only[eu,dZ,fF,eU,cO,List.cons_append]
 rw[eT];obtain⟨T2,hT2⟩:∃T2:Array Value,T2=#[.pointer (some ⟨w.heap.size+1,0,none⟩),.pointer (some ⟨b,0,none⟩),.pointer (some ⟨fb,0,none⟩),.pointer (some ⟨mb,0,none⟩),.pointer (some ⟨sx,0,none⟩),.pointer (some ⟨w.heap.size,0,none⟩),undef,undef,undef,undef,undef,undef,undef,undef,undef,undef,undef,undef,undef,undef,undef,undef,undef,undef,undef,undef,undef,undef,undef]:=⟨_,rfl⟩;rw[<-hT2];have t0:T2[0]?=some (.pointer (some ⟨w.heap.size+1,0,none⟩)):=by rw[hT2];rfl
 have ea:(#[.tmp 0]:Array Operand).map (Act.eval ⟨T2,[]⟩)=#[.pointer (some ⟨w.heap.size+1,0,none⟩)]:=by
  simp only[eH,aB,dJ];rw[L8 t0]
 refine CU hN0 rfl (λ_=>stepG_seq) (CU hN0 rfl (λ_=>stepG_region) ?_);refine CU hN0 rfl (λ_=>stepG_defer (o:=YG) rfl (by rfl) (by decide) rfl) (CU hN0 rfl (λ_=>stepG_region_end) ?_);rw[show Act.put ⟨T2,dcall 60 ((#[.tmp 0]:Array Operand).map (Act.eval ⟨T2,[]⟩))::[]⟩ YG.dst undef=⟨T2,[dcall 60 #[.pointer (some ⟨w.heap.size+1,0,none⟩)]]⟩ from by rw[ea];rfl];rw[b70];refine CU hN0 rfl (λ_=>stepG_seq) ?_;obtain⟨v,hv1,hv2,hv3⟩:=h.files i hi;have NT:w.cell? ⟨fb,0,none⟩=some (.slice (some ⟨rb,0,none⟩) n fc):=by simp[World.cell?,h.pT]
 obtain⟨n1,n2,n3,n4⟩:=h.hn;have hn0:0<n:=by omega
 obtain⟨i1,i2,i3,i4⟩:=h.hic hn0;have key:=US (Stop:=RX Z i b) hZ zP h.W (.pointer (some ⟨w.heap.size+1,0,none⟩)) (.pointer (some ⟨mb,0,none⟩)) (.pointer (some ⟨sx,0,none⟩)) (.pointer (some ⟨w.heap.size,0,none⟩)) [dcall 60 #[.pointer (some ⟨w.heap.size+1,0,none⟩)]]
  (DB:=DB) (λe he=>by
   obtain⟨d1,d2,d3,d4,d5⟩:=h.hDB e he;exact⟨d1,d2,rM e ⟨d2,d3,d4⟩,hel e d2 d3 d4,d5⟩) h.IB JA NT ⟨hi,n2,n1⟩ hv1 hv2 hv3 hbx ⟨by omega,by omega⟩ (by omega) (by omega) h.gl ?_
 ·rw[<-hT2] at key;exact key
 ·intro O u V2 x7 x8 x9 x10 x11 x12 w3 hN hOb hK hrow hrb XA;obtain⟨ua,uc,rfl⟩:=hrow.slice;have hh:∀e,e<w.heap.size->e≠Cb->¬Sh e->w3.heap[e]?=w.heap[e]?:=λe a1 a2 a3=>(hK.iP e (rM e ⟨a1,a2,a3⟩)).trans (hel e a1 a2 a3);have hcl:∀e k,e<w.heap.size->e≠Cb->¬Sh e->w3.cell? ⟨e,k,none⟩=w.cell? ⟨e,k,none⟩:=λe k a1 a2 a3=>ConcN.cell_of_block (hh e a1 a2 a3) k;obtain⟨m1,m2,m3,m4⟩:=h.hmb;obtain⟨s1,s2,s3,s4⟩:=h.hsx;obtain⟨t1,t2,t3,t4⟩:=h.hsb;have hw:HW Z i b O w3 mb sx sb ic c1 c2 (ids.getD i 0) w3:=by
   refine⟨hN,aj _,λ_ _=>rfl,⟨rM _ ⟨m1,m2,m3⟩,rM _ ⟨s1,s2,s3⟩,rM _ ⟨t1,t2,t3⟩,rM _ ⟨i1,i2,i3⟩,by rw[kg];exact rM _ ⟨df2,Pn,JA⟩⟩,by rw[zn];exact⟨hi,n3,n4 hn0,n1⟩,hK.box.trans hbx,(hcl _ _ s1 s2 s3).trans s4,?_,?_,(hcl _ _ i1 i2 i3).trans (i4 i hi),hK.cb km,hK.al ks,hK.live (by rw[zt,kh];exact hlv),?_⟩
   ·rw[Wp,zn];exact(hcl _ _ t1 t2 t3).trans t4
   ·rw[zn];exact(hcl _ _ m1 m2 m3).trans (m4 hn0)
   ·rw[kg,j0];exact(hcl _ _ df2 Pn JA).trans NT
  have hrest:=b7Y hZ zP zt zC (by rw[kq];omega) w3 V2 x7 x8 x9 x10 x11 x12 mb sx sb ic c1 c2 (ids.getD i 0) ua _ uc (λw4 hF=>by
   rw[zR];refine⟨?_,⟨_,?_,hrow.keep λg hg=>hF.hw.own g (hrb g hg),hrb⟩,λe he=>?_,hb,hF.hw.box⟩
   ·rw[<-Wp];exact hF.c0
   ·rw[<-Wp];exact hF.c1
   ·obtain⟨o,o1,o2⟩:=XA e he;have hle:Zn.Le {zone with D:=λb'=>DB b'\/b'=b\/O b'} {zone with D:=λb'=>(b'<w.heap.size/\b'≠Cb/\¬Sh b')\/b'=b\/O b'}:=by
     refine⟨rfl,rfl,rfl,?_⟩;rintro q (hq|hq)
     ·obtain⟨_,d2,d3,d4,_⟩:=h.hDB q hq;exact .inl ⟨d2,d3,d4⟩
     ·exact .inr hq
    exact⟨o,(hF.hw.own e he).trans o1,o2.mono hle⟩) w3 hw
  rw[kh,kq] at hrest;exact hrest
end
section
open Go.RowKit Go.Lib Go.Maps Dk Pl
open Zn (tp)
structure iI(F:Nat->Prop)(w w':World):Prop where
 os:w'.os=w.os
 output:w'.output=w.output
 size:w.heap.size<=w'.heap.size
 block:∀b,b<w.heap.size->¬F b->w'.heap[b]?=w.heap[b]?
theorem iI.refl(F:Nat->Prop)(w:World):iI F w w:=⟨rfl,rfl,aj _,λ_ _ _=>rfl⟩
theorem iI.trans{F:Nat->Prop}{a b c:World}(h:iI F a b)(k:iI F b c):iI F a c:=
 ⟨k.os.trans h.os,k.output.trans h.output,ay h.size k.size,λx hx hF=>(k.block x (ak hx h.size) hF).trans (h.block x hx hF)⟩
theorem iI.of{F G:Nat->Prop}{w w':World}{τ τ':Nat->Question->Nat}{p p':Nat}(h:fA F G (tp w τ p) (tp w' τ' p')):iI F w w':=⟨h.os,h.output,h.size,h.block⟩
theorem iI.ext{F:Nat->Prop}{w w':World}{τ τ':Nat->Question->Nat}{p p':Nat}(h:Ext (tp w τ p) (tp w' τ' p')):iI F w w':=⟨h.os,h.output,h.size,λb hb _=>h.block b hb⟩
theorem iI.less{F G:Nat->Prop}{w w':World}(h:iI G w w')(hG:∀b,b<w.heap.size->G b->F b):iI F w w':=⟨h.os,h.output,h.size,λb hb hF=>h.block b hb λhg=>hF (hG b hb hg)⟩
theorem Held.jr{w w':World}{F:Nat->Prop}{Φ:World->Prop}(h:Held w F Φ)(c:iI F w w')(hl:∀b,F b->b<w.heap.size):Held w' F Φ:=by
 obtain⟨S,h1,h2⟩:=h;exact⟨S,λb hb=>⟨ak (h1 b hb).1 c.size,(h1 b hb).2⟩,λw'' hw=>h2 w'' λb hb=>(hw b hb).trans (c.block b (h1 b hb).1 (h1 b hb).2)⟩
theorem A7.ru{w:World}{τ:Nat->Question->Nat}{p:Nat}{F:Nat->Prop}{a:Nat}{d:D}(h:A7 (tp w τ p) F a d):A7 w F a d:=h.frame (λ_ _=>rfl) (aj _)
theorem A7.fZ{w:World}{τ:Nat->Question->Nat}{p:Nat}{F:Nat->Prop}{a:Nat}{d:D}(h:A7 w F a d):A7 (tp w τ p) F a d:=h.frame (λ_ _=>rfl) (aj _)
theorem b7H:I9 0=.seq (O5 0) (I9 1):=by kernel_rfl
theorem b7I:I9 1=.seq (O5 1) (I9 2):=by kernel_rfl
theorem b7J:I9 2=.seq (O5 2) (I9 3):=by kernel_rfl
theorem b7K:I9 3=.seq (O5 3) (I9 4):=by kernel_rfl
theorem b7L:I9 4=.seq (O5 4) (I9 5):=by kernel_rfl
theorem b7M:I9 5=.seq (O5 5) (I9 6):=by kernel_rfl
theorem b4R:I9 10=.seq (O5 10) (I9 11):=by kernel_rfl
theorem b4S:I9 11=.seq (O5 11) (I9 12):=by kernel_rfl
theorem b4T:I9 12=.seq (O5 12) (I9 13):=by kernel_rfl
noncomputable def X3:List Code:=[O5 0,O5 1,O5 2,O5 3,O5 4,O5 5,O5 10,O5 11,O5 12,I9 13]
theorem b4U:X3.all (Zn.ny zb)=true:=by kernel_rfl
theorem LL{c:Code}(h:c∈X3):Zn.eX zone c:=Zn.ny.sound (aQ.1 b4U c h)
def fX(k:Tmp):Bool:=decide (k=11)||decide (k=12)||(decide (15<=k)&&decide (k<=18))||decide (79<=k)
theorem b7N:([O5 10,O5 11,O5 12,I9 13].all (Zn.kC fX))=true:=by kernel_rfl
theorem c0t{c:Code}(h:c∈[O5 10,O5 11,O5 12,I9 13]):Zn.gX (λk=>fX k=true) c:=Zn.kC.sound (aQ.1 b7N c h)
end
section
open Go.RowKit Go.Lib Go.Maps Dk Pl
open Zn (tp Full)
open To (iZ jH L9 Iv GU)
set_option linter.unusedSectionVars false
def cy(a mb:Nat)(w:World):Exit->Act->World->Prop
 | .normal,a',w'=>a'.defers=[]/\a'.tmps.size=118/\a'.tmps[0]?=some (o7 a)/\a'.tmps[4]?=some (.pointer (some ⟨mb,0,none⟩))/\w'=w
 | _,_,_=>False
theorem t2{a mb:Nat}(T:Array Value)(hT:T.size=118)(h0:T[0]?=some (o7 a))(h4:T[4]?=some (.pointer (some ⟨mb,0,none⟩)))(h5:T[5]?=some (.nilIface))(w:World):(O5 2).wp prog (cy a mb w) ⟨T,[]⟩ w:=by
 rw[U2 (U2 (U2 (zo T hT) (k:=0) (J3 h0)) (k:=4) (J3 h4)) (k:=5) (J3 h5)];generalize (λk=>T.getD k undef)=x;clear hT h0 h4 h5;unfold O5 I9;simp only[Code.behind,Code.head,Tryz.f14,aP,wE,up,reduceIte,Nat.reduceEqDiff];go_wp2;exact⟨rfl,rfl,rfl,rfl,rfl⟩
def qS(y:Value)(w:World):Exit->Act->World->Prop
 | .ret,a',w'=>a'.defers=[]/\a'.tmps[2]?=some (.pointer none)/\a'.tmps[3]?=some y/\w'=w
 | _,_,_=>False
theorem lp{t:TypeId}{v:Value}(T:Array Value)(hT:T.size=118)(h5:T[5]?=some (.iface t v))(w:World):(O5 2).wp prog (qS (.iface t v) w) ⟨T,[]⟩ w:=by
 rw[U2 (zo T hT) (k:=5) (J3 h5)];generalize (λk=>T.getD k undef)=x;clear hT h5;unfold O5 I9;simp only[Code.behind,Code.head,Tryz.f14,aP,wE,up,reduceIte,Nat.reduceEqDiff];go_wp2;exact⟨rfl,rfl,rfl,rfl⟩
theorem err_iface{w:World}{y:Value}{er:Er}(h:ErrAt w y er)(he:er≠.ok):∃t v,y=.iface t v:=by
 cases er with
 | ok=>exact absurd rfl he
 | num n=>exact⟨_,_,h⟩
 | file n m=>
  obtain⟨b,rfl,_⟩:=h;exact⟨_,_,rfl⟩
def Dk.D.gq(d:D):Option (Nat×List Int×List (List UInt8))×Er×D:=
 match d.aV with
 | (none,er,d1)=>(none,er,d1)
 | (some (g,ids),_,d1)=>match D.bZ ids d1 [] with
  | (bss,.ok,d2)=>(some (g,ids,bss),.ok,d2)
  | (_,er,d2)=>(none,er,d2)
set_option linter.unusedSectionVars false
variable[To.Lo]{Sh:Nat->Prop}{X:Tmp->Prop}{fn:FuncId}{Q:Exit->Act->World->(Nat->Prop)->Prop}{a:Act}{w:World}
theorem piece{c:Code}(Q0:World->Exit->Act->World->Prop)(hI:Iv zone Sh X a w)(hc:Zn.eX zone c)(hu:Zn.gX X c)(h:∀τ p,c.wp prog (Q0 (tp w τ p)) a (tp w τ p))
 (hQ:∀e a' w' τ p τ' p',Q0 (tp w τ p) e a' (tp w' τ' p')->(e=.normal\/e=.ret)/\(Iv zone Sh X a' w'->w.heap.size<=w'.heap.size->Q e a' w' Sh)):iZ prog fn c Q a w Sh:=
 jH (Q0:=λe a' w'=>∃τ p,Q0 (tp w τ p) e a' w') Sm hI hc hu (λτ p=>Code.wp_mono (λ_ _ _ q=>⟨τ,p,q⟩) (h τ p)) λe a' w' τ' p'⟨τ,p,q⟩=>hQ e a' w' τ p τ' p' q
end
section
open Go.RowKit Go.Lib Go.Maps Dk
namespace Dk
def D.nP(d:D)(ids:List Int)(k:Nat):D:=(d.removeAll ((d.list.take k).filter λn=>!wG ids n)).2
structure Sw(d:D)(ids:List Int)(k:Nat):Prop where
 ok:d.removeAll ((d.list.take k).filter λn=>!wG ids n)=(.ok,d.nP ids k)
 now:(d.nP ids k).now=D6 d.now (((d.list.take k).filter λn=>!wG ids n).map λn=>(n,none))
 moves:(d.nP ids k).moves=d.moves++((d.list.take k).filter λn=>!wG ids n).map λn=>[(n,none)]
 calm:(d.nP ids k).Calm
theorem D.Calm.sw{d:D}(h:d.Calm)(hn:(d.now.map (·.1)).Nodup)(ids:List Int)(k:Nat):Sw d ids k:=by
 have hr:=h.removeAll ((d.list.take k).filter λn=>!wG ids n) (((Qf hn).sublist (wU _ _)).filter _) (λn hm=>by
  have:=List.mem_of_mem_take (iR.1 hm).1;rwa [Kr] at this)
 have e:d.nP ids k={d with now:=D6 d.now (((d.list.take k).filter λn=>!wG ids n).map λn=>(n,none)),moves:=d.moves++((d.list.take k).filter λn=>!wG ids n).map λn=>[(n,none)]}:=by
  unfold D.nP;rw[hr]
 exact⟨by rw[hr,e],by rw[e],by rw[e],by rw[e];exact h⟩
theorem b7U{d:D}(h:d.Calm)(hnd:(d.now.map (·.1)).Nodup)(ids:List Int):d.sweep ids=(d.nP ids d.list.length).gK:=by
 have s:=h.sw hnd ids d.list.length;have h1:=s.ok;rw[bG] at h1;unfold D.sweep;rw[h1]
end Dk
end
section
open Go.RowKit Go.Lib Go.Maps Dk Pl
end
section
open Go.RowKit Go.Lib Go.Maps Dk Pl
theorem Cd{l:List UInt8}{g:Nat}{ids:List Int}(h:aV l=some (g,ids)):Em ids:=by
 unfold aV at h;split at h
 ·rename_i hg;injection h with h;injection h with _ h;unfold zx at hg;simp only[aH] at hg;have hi:=hg.2.2.2;rw[h] at hi;unfold nC at hi;simp only[aH,dQ,aQ] at hi;refine⟨hi.1,λx hx=>?_⟩;have:=hi.2.1 x hx;unfold inRange at this;simpa using this
 ·cases h
end
section
open Go.RowKit Go.Lib Go.Maps Dk Pl
open Zn (tp Full)
open To (iZ jH L9 Iv GU)
set_option linter.unusedSectionVars false
section
variable{F G:Nat->Prop}{w w':World}
theorem iI.eq{τ τ':Nat->Question->Nat}{p p':Nat}(h:tp w' τ' p'=tp w τ p):iI F w w':=by
 have h1:(tp w' τ' p').heap=(tp w τ p).heap:=congrArg World.heap h;have h2:(tp w' τ' p').os=(tp w τ p).os:=congrArg World.os h;have h3:(tp w' τ' p').output=(tp w τ p).output:=congrArg World.output h;replace h1:w'.heap=w.heap:=h1;exact⟨h2,h3,by rw[h1];exact aj _,λb _ _=>by rw[h1]⟩
theorem iI.box{n:Nat}{t:TypeId}{cs:Array Value}(c:iI F w w')(h:o8 w n t cs)(hn:¬F n):o8 w' n t cs:=(c.block n h.lt hn).trans h
theorem iI.disk{a:Nat}{d:D}(c:iI G w w')(h:A7 w F a d)(hG:∀b,F b->¬G b):A7 w' F a d:=h.frame (λb hb=>c.block b (h.low b hb) (hG b hb)) c.size
theorem iI.row{B:Nat}{e:TypeId}{size:Nat}{v:Value}{n:Nat}{xs:List Value}(c:iI F w w')(h:w.ownsRow B e size v n xs)(hn:∀b,v.ownBlock=some b->¬F b):w'.ownsRow B e size v n xs:=iV.row h _ λb hb=>c.block b (World.ownsRow.lt h b hb).2 (hn b hb)
end
structure Hd(F:Nat->Prop)(a:Nat)(d:D)(w:World)(T:Array Value)(w':World)(gen:Nat)(ids:List Int)(bss:List (List UInt8))(mb fb rb sx sb Cb:Nat)(ia:Option Addr)(ic:Nat)(vs:List Value)(d2:D):Prop where
 ko:d.gq=(some (gen,ids,bss),.ok,d2)
 uI:Em ids
 hs:T.size=118
 t4:T[4]?=some (.pointer (some ⟨mb,0,none⟩))
 t6:T[6]?=some (.pointer (some ⟨fb,0,none⟩))
 t11:T[11]?=some (.pointer (some ⟨sx,0,none⟩))
 disk:A7 w' F a d2
 jr:iI F w w'
 hmb:o8 w' mb 125 #[.int .u64 gen,.slice ia ids.length ic]
 jU:iQ w' w.heap.size (.slice ia ids.length ic) ids
 hfb:o8 w' fb 128 #[.slice (some ⟨rb,0,none⟩) ids.length ids.length]
 hrow:xg w w' rb ids.length vs bss
 FY:bss.length=ids.length
 hsx:o8 w' sx 32 #[.pointer (some ⟨sb,0,none⟩)]
 hsb:o8 w' sb 138 #[o7 a,.int .u64 gen,.slice ia ids.length ic,.slice (some ⟨Cb,0,none⟩) ids.length ids.length,.map none,.int .i64 0]
 hcb:w'.heap[Cb]?=some (.cells (madeCells #[.int .i64 0,.slice none 0 0] (ids.length*2)) 154)
 new:w.heap.size<=mb/\w.heap.size<=fb/\w.heap.size<=rb/\w.heap.size<=sx/\w.heap.size<=sb/\w.heap.size<=Cb
structure xh(F:Nat->Prop)(a:Nat)(d:D)(w:World)(a':Act)(w':World)(y:Value):Prop where
 defers:a'.defers=[]
 t2:a'.tmps[2]?=some (.pointer none)
 t3:a'.tmps[3]?=some y
 ko:d.gq.1=none/\d.gq.2.1≠.ok
 disk:A7 w' F a d.gq.2.2
 jr:iI F w w'
 err:Held w' F (λW=>ErrAt W y d.gq.2.1)
set_option linter.unusedSectionVars false
variable[To.Lo]{Sh:Nat->Prop}{fn:FuncId}{Q:Exit->Act->World->(Nat->Prop)->Prop}{w:World}
theorem b4V{d:D}{gen:Nat}{ids:List Int}(h:d.aV.1=some (gen,ids)):Em ids:=by
 unfold D.aV at h;obtain⟨⟨b,er,d1⟩,hr⟩:∃r,d.whole I5=r:=⟨_,rfl⟩;rw[hr] at h
 cases er with
 | ok=>
  dsimp only at h
  cases hm:Go.Proofs.YtgpbhjjajpbeeaaGreatDoor.aV b with
  | none=>rw[hm] at h;cases h
  | some r=>
   rw[hm] at h;obtain⟨g,l⟩:=r;injection h with h;injection h with h1 h2;subst h1 h2
   exact Cd hm
 | num n=>cases h
 | file n m=>cases h
omit[To.Lo] in
theorem KG{d:D}(h:d.aV.1=none):d.gq=(none,d.aV.2.1,d.aV.2.2):=by
 unfold D.gq;obtain⟨⟨o,er,d1⟩,hr⟩:∃r,d.aV=r:=⟨_,rfl⟩;rw[hr] at h⊢;dsimp only at h;subst h;rfl
omit[To.Lo] in
theorem KA{d:D}{gen:Nat}{ids:List Int}(h:d.aV.1=some (gen,ids))(he:(D.bZ ids d.aV.2.2 []).2.1≠.ok):d.gq=(none,(D.bZ ids d.aV.2.2 []).2.1,(D.bZ ids d.aV.2.2 []).2.2):=by
 unfold D.gq;obtain⟨⟨o,er,d1⟩,hr⟩:∃r,d.aV=r:=⟨_,rfl⟩;rw[hr] at h he⊢;dsimp only at h he⊢;subst h;dsimp only;obtain⟨⟨bss,e2,d2⟩,hr2⟩:∃r,D.bZ ids d1 []=r:=⟨_,rfl⟩;rw[hr2] at he⊢;dsimp only at he⊢
 cases e2 with
 | ok=>exact absurd rfl he
 | num n=>rfl
 | file n m=>rfl
omit[To.Lo] in
theorem ZI{d:D}{gen:Nat}{ids:List Int}(h:d.aV.1=some (gen,ids))(he:(D.bZ ids d.aV.2.2 []).2.1=.ok):d.gq=(some (gen,ids,(D.bZ ids d.aV.2.2 []).1),.ok,(D.bZ ids d.aV.2.2 []).2.2):=by
 unfold D.gq;obtain⟨⟨o,er,d1⟩,hr⟩:∃r,d.aV=r:=⟨_,rfl⟩;rw[hr] at h he⊢;dsimp only at h he⊢;subst h;dsimp only;obtain⟨⟨bss,e2,d2⟩,hr2⟩:∃r,D.bZ ids d1 []=r:=⟨_,rfl⟩;rw[hr2] at he⊢;dsimp only at he⊢;subst he;rfl
theorem b7O{F:Nat->Prop}{a:Nat}{d:D}{T0:Array Value}(hI:Iv zone Sh Full ⟨T0,[]⟩ w)(hs:T0.size=118)(h0:T0[0]?=some (o7 a))(hD:A7 w F a d)(hds:∀x∈d.ids,(d.node x).data.length<=35184372088832)(hl:Held w F nZ)
 (herr:∀a' w' y,xh F a d w a' w' y->Iv zone Sh Full a' w'->Q .ret a' w' Sh)
 (hok:∀T w' gen ids bss mb fb rb sx sb Cb ia ic vs d2,Hd F a d w T w' gen ids bss mb fb rb sx sb Cb ia ic vs d2->Iv zone Sh Full ⟨T,[]⟩ w'->iZ prog fn (I9 6) Q ⟨T,[]⟩ w' Sh):iZ prog fn (I9 0) Q ⟨T0,[]⟩ w Sh:=by
 have mem:∀{c:Code},c∈X3->Zn.eX zone c:=LL;rw[b7H];refine L9 (piece (λw=>de a w) hI (mem (by simp[X3])) (Zn.fD _) (λτ p=>t0 T0 hs h0 _) ?_);rintro e ⟨T1,ds1⟩ w1 τ p τ' p' q;cases e<;>first|exact q.elim|skip
 obtain⟨q1,q2,q3,q4,q5,q6⟩:=q;dsimp only at q1 q2 q3 q4 q5;subst q1;refine⟨.inl rfl,λhI1 _=>?_⟩;have c1:iI (λ_=>False) w w1:=.eq q6;have hD1:=c1.disk hD λ_ _ h=>h;clear q6;show iZ _ _ _ _ _ _ _;rw[b7I];refine L9 (piece (λw=>cz F a d w) hI1 (mem (by simp[X3])) (Zn.fD _) (λτ p=>t1 T1 q2 q3 q4 q5 F d _ hD1.fZ hds) ?_);rintro e ⟨T2,ds2⟩ w2 τ p τ' p' q;cases e<;>first|exact q.elim|skip
 obtain⟨r1,r2,r3,r4,r5,mb,g,v,y,r6,r7,r8,r9,r10,r11,r12⟩:=q;dsimp only at r1 r2 r3 r4 r5 r6 r7;subst r1;refine⟨.inl rfl,λhI2 _=>?_⟩;have hD2:A7 w2 F a d.aV.2.2:=r10.ru;have c2:iI F w w2:=(c1.less (λ_ _ h=>h.elim)).trans (.of r11);have hmb:o8 w2 mb 125 #[.int .u64 g,v]:=r9;have Ny:w.heap.size<=mb:=ay c1.size r8;show iZ _ _ _ _ _ _ _;rw[b7J];rcases r12 with⟨e1,e2,e3⟩|⟨gen,ids,e1,e2,rfl,rfl,e5⟩
 ·have hE:Held w2 F (λW=>ErrAt W y d.aV.2.1):=e3;obtain⟨t,v',rfl⟩:=err_iface hE.get e2;refine L9 (piece (λw=>qS (.iface t v') w) hI2 (mem (by simp[X3])) (Zn.fD _) (λτ p=>lp T2 r2 r7 _) ?_);rintro e a3 w3 τ p τ' p' q;cases e<;>first|exact q.elim|skip
  obtain⟨s1,s2,s3,s4⟩:=q;refine⟨.inr rfl,λyK _=>herr a3 w3 _ ⟨s1,s2,s3,?_,?_,?_,?_⟩ yK⟩
  ·rw[KG e1];exact⟨rfl,e2⟩
  ·rw[KG e1];exact(iI.eq s4:iI (λ_=>False) w2 w3).disk hD2 λ_ _ h=>h
  ·exact c2.trans (.eq s4)
  ·rw[KG e1];exact hE.jr (.eq s4) hD2.low
 ·have hin:=b4V e1;have m8:iQ w2 w.heap.size v ids:=O4 e5 c1.size;refine L9 (piece (λw=>cy a mb w) hI2 (mem (by simp[X3])) (Zn.fD _) (λτ p=>t2 T2 r2 r3 r6 r7 _) ?_);rintro e ⟨T3,ds3⟩ w3 τ p τ' p' q;cases e<;>first|exact q.elim|skip
  obtain⟨s1,s2,s3,s4,s5⟩:=q;dsimp only at s1 s2 s3 s4;subst s1;refine⟨.inl rfl,λyK _=>?_⟩;have c3':iI (λ_=>False) w2 w3:=.eq s5;have c3:iI F w w3:=c2.trans (.eq s5);have hD3:=c3'.disk hD2 λ_ _ h=>h;have BI:=c3'.box hmb λh=>h;have Bz:iQ w3 w.heap.size v ids:=c3'.row m8 λ_ _ h=>h;clear s5 hD2 hmb m8;show iZ _ _ _ _ _ _ _;rw[b7K];refine L9 (piece (λw=>cv a mb ids.length w) yK (mem (by simp[X3])) (Zn.fD _) (λτ p=>t3 T3 s2 s3 s4 gen v ids _ BI ⟨_,Bz⟩ hin.1) ?_);rintro e ⟨T4,t7⟩ w4 τ p τ' p' q;cases e<;>first|exact q.elim|skip
  obtain⟨u1,u2,u3,u4,u5,fb,rb,u6,u7,u8,u9,u10⟩:=q;dsimp only at u1 u2 u3 u4 u6;subst u1;refine⟨.inl rfl,λGq _=>?_⟩;have YP:iI (λ_=>False) w3 w4:=.ext u5;have c4:iI F w w4:=c3.trans (.ext u5);have hD4:=YP.disk hD3 λ_ _ h=>h;have NC:=YP.box BI λh=>h;have Bv:iQ w4 w.heap.size v ids:=YP.row Bz λ_ _ h=>h;have yD:o8 w4 fb 128 #[.slice (some ⟨rb,0,none⟩) ids.length ids.length]:=u9;have Ns:w4.heap[rb]?=some (.cells (List.replicate ids.length (Value.slice none 0 0)).toArray 25):=u10;have lj:w3.heap.size<=fb:=u7;have u8':w3.heap.size<=rb:=u8;have hlow:=hD.low;have pm:mb<w3.heap.size:=BI.lt;have Sz:¬F rb:=λh=>by have:=hlow rb h;have:=c3.size;omega
  have hne:fb≠rb:=by
   rintro rfl;unfold o8 at yD;rw[Ns] at yD;injection yD with h;injection h with h1 h2 h3;revert h2;decide
  obtain⟨ia,ic,rfl⟩:=ownsRow_form Bv;have hvl:∀b,(Value.slice ia ids.length ic).ownBlock=some b->w.heap.size<=b/\b<w3.heap.size:=λb hb=>World.ownsRow.lt Bz b hb;have OB:Held w4 (λb=>F b\/b=rb) (λW=>(o8 W mb 125 #[.int .u64 gen,.slice ia ids.length ic]/\Ints W (.slice ia ids.length ic) ids)/\o8 W fb 128 #[.slice (some ⟨rb,0,none⟩) ids.length ids.length]/\nZ W):=by
   refine Held.and (Held.and (Held.box NC ?_) ?_) (Held.and (Held.box yD ?_) ?_)
   ·rintro(h|h)
    ·have:=hlow mb h;omega
    ·omega
   ·refine(Held.of (iV.row Bv) λb hb=>⟨(World.ownsRow.lt Bv b hb).2,?_⟩).mono λW hW=>iQ.ints hW;have:=hvl b hb;rintro(h|h)
    ·have:=hlow b h;omega
    ·omega
   ·rintro(h|h)
    ·have:=hlow fb h;have:=c3.size;omega
    ·exact hne h
   ·obtain⟨S,h1,h2⟩:=hl;refine⟨S,λb hb=>⟨ak (h1 b hb).1 c4.size,?_⟩,λw'' hw=>h2 w'' λb hb=>(hw b hb).trans (c4.block b (h1 b hb).1 (h1 b hb).2)⟩;rintro(h|h)
    ·exact(h1 b hb).2 h
    ·have:=(h1 b hb).1;have:=c3.size;omega
  have hsm:=D.lW d;have XL:∀x∈d.aV.2.2.ids,(d.aV.2.2.node x).data.length<=35184372088832:=λx hx=>by rw[hsm.node];rw[hsm.ids] at hx;exact hds x hx
  clear u5 u7 u8 u9 u10 BI Bz hD3;show iZ _ _ _ _ _ _ _;rw[b7L];refine L9 (piece (λw=>cp F a mb fb rb d.aV.2.2 ids w) Gq (mem (by simp[X3])) (Zn.fD _) (λτ p=>t4 T4 u2 u3 u4 u6 F gen ia ic d.aV.2.2 ids _ hD4.fZ XL hin OB Ns Sz) ?_);rintro e ⟨T5,qk⟩ w5 τ p τ' p' q;have hF':∀b,b<w.heap.size->(F b\/b=rb)->F b:=λb hb h=>h.elim id λh=>by have:=c3.size;omega
  have sP:∀{τ τ' p p'},fA (λb=>F b\/b=rb) (λb=>F b\/b=rb) (tp w4 τ p) (tp w5 τ' p')->iI F w w5:=λh=>by
   have h1:iI (λb=>F b\/b=rb) w4 w5:=.of h;exact⟨h1.os.trans c4.os,h1.output.trans c4.output,ay c4.size h1.size,λb hb hF=>(h1.block b (ak hb c4.size) λh=>hF (hF' b hb h)).trans (c4.block b hb hF)⟩
  cases e<;>first|exact q.elim|skip
  ·obtain⟨v1,v2,v3,v4,v5,v6,v7,v8,vs,v9,v10⟩:=q;dsimp only at v1 v2 v3 v4 v5;subst v1;have hD5:A7 w5 F a (D.bZ ids d.aV.2.2 []).2.2:=v7.ru;have c5:iI F w w5:=sP v8;have BX:iI (λb=>F b\/b=rb) w4 w5:=.of v8;have hn1:∀b,w.heap.size<=b->¬F b:=λb hb h=>by have:=hlow b h;omega
   have Nz:=BX.box NC λh=>h.elim (hn1 mb Ny) λh=>by omega
   have XJ:=BX.box yD λh=>h.elim (hn1 fb (ay c3.size lj)) hne;have Xk:iQ w5 w.heap.size (.slice ia ids.length ic) ids:=BX.row Bv λb hb=>by
    have:=hvl b hb;exactλh=>h.elim (hn1 b this.1) λh=>by omega
   have oU:xg w4 w5 rb ids.length vs (D.bZ ids d.aV.2.2 []).1:=⟨v9.len,v9.le,v9.row,v9.at_⟩;have nj:w4.heap.size<=w5.heap.size:=BX.size;clear v8 v9 v7;refine⟨.inl rfl,λBO _=>?_⟩;show iZ _ _ _ _ _ _ _;rw[b7M];refine L9 (piece (λw=>cn a mb fb ids.length gen (.slice ia ids.length ic) w) BO (mem (by simp[X3])) (Zn.fD _) (λτ p=>t5 T5 v2 v3 v4 v5 gen ia ids.length ic _ Nz hin.1) ?_);rintro e ⟨T6,ds6⟩ w6 τ p τ' p' q;cases e<;>first|exact q.elim|skip
   obtain⟨x1,x2,x3,x4,x5,sx,sb,Cb,x6,x7,x8,x9,-,-,-,x10,x11,x12⟩:=q;dsimp only at x1 x2 x3 x4 x6;subst x1;replace x7:w5.heap.size<=sx:=x7;replace x8:w5.heap.size<=sb:=x8;replace x9:w5.heap.size<=Cb:=x9;have JB:iI (λ_=>False) w5 w6:=.ext x5;refine⟨.inl rfl,λD_ _=>hok T6 w6 gen ids (D.bZ ids d.aV.2.2 []).1 mb fb rb sx sb Cb ia ic vs (D.bZ ids d.aV.2.2 []).2.2 ?_ D_⟩;exact{
    ko:=ZI e1 v6
    uI:=hin
    hs:=x2
    t4:=x3
    t6:=x4
    t11:=x6
    disk:=JB.disk hD5 λ_ _ h=>h
    jr:=c5.trans (.ext x5)
    hmb:=JB.box Nz λh=>h
    jU:=JB.row Xk λ_ _ h=>h
    hfb:=JB.box XJ λh=>h
    hrow:=by
     have k:xg w w5 rb ids.length vs (D.bZ ids d.aV.2.2 []).1:=⟨oU.len,oU.le,oU.row,λj u b hu hb=>⟨O4 (oU.at_ j u b hu hb).1 c4.size,(oU.at_ j u b hu hb).2⟩⟩;exact k.keep (JB.block rb (lt_of_block oU.row) λh=>h) λb _ hb _=>JB.block b hb λh=>h
    FY:=v10
    hsx:=x10
    hsb:=x11
    hcb:=x12
    new:=by have:=c3.size;have:=c5.size;exact⟨Ny,by omega,by omega,by omega,by omega,by omega⟩}
  ·obtain⟨v1,y,v2,v3,v4,v5,v6,v7⟩:=q;refine⟨.inr rfl,λBO _=>herr ⟨T5,qk⟩ w5 y ⟨v1,v2,v3,?_,?_,sP v6,?_⟩ BO⟩
   ·rw[KA e1 v4];exact⟨rfl,v4⟩
   ·rw[KA e1 v4];exact v5.ru
   ·rw[KA e1 v4];exact v7
end
section
open Go.RowKit Go.Lib Go.Maps Dk Pl
open Zn (tp Full jh)
open To (iZ jH L9 Iv GU)
section
theorem b7P{d:D}{M:Nat}(hw:d.Wf)(h:∀x∈d.ids,(d.node x).data.length<=M)(n:Nm):(d.whole n).1.length<=M:=by
 have key:∀(D':D),uU d D'->∀i k,(D'.iE n i k).1.length<=M:=by
  intro D' hs i k;unfold D.iE D.find;split
  ·exact bU _
  ·rename_i o e d1 he;split at he
   ·cases he
   ·cases hl:D7 D'.now n with
    | none=>rw[hl] at he;cases he
    | some x=>
     rw[hl] at he;injection he with h1 h2;injection h1 with h1;injection h2 with h2 h3;subst h1 h3;have hx:x∈d.ids:=by
      have:=Ad hl;rw[hs.now] at this;exact hw.now _ this
     have hf:=D'.lG;have hb:((D'.fails.2).node x).data.length<=M:=by rw[hf.node,hs.node];exact h x hx
     refine ay ?_ hb;show(Dk.part _ _ _).length<=_;unfold Dk.part;rw[bD,dD];omega
 unfold D.whole;obtain⟨⟨k,e,d1⟩,hr⟩:∃r,d.size n=r:=⟨_,rfl⟩;have hs:=d.oO n;rw[hr] at hs⊢
 cases e with
 | ok=>exact key d1 hs 0 k
 | num n=>exact bU _
 | file n m=>exact bU _
theorem b7Q{M:Nat}:∀(ids:List Int){d:D}{acc:List (List UInt8)},d.Wf->(∀x∈d.ids,(d.node x).data.length<=M)->(∀l∈acc,l.length<=M)->∀l∈(D.bZ ids d acc).1,l.length<=M:=by
 intro ids
 induction ids with
 | nil=>exactλ_ _ h=>h
 | cons id ids ih=>
  intro d acc hw hd ha;have hl:=b7P hw hd (F6 I8 id.toNat);have hs:=d.lD (F6 I8 id.toNat);obtain⟨⟨b,e,d1⟩,hr⟩:∃r,d.whole (F6 I8 id.toNat)=r:=⟨_,rfl⟩;rw[hr] at hl hs;by_cases he:e=.ok
  ·subst he;rw[cP hr];refine ih ⟨?_,?_,?_,?_,?_⟩ (λx hx=>?_) λl h=>?_
   ·intro p hp;have e1:d1.now=d.now:=hs.now;have e2:d1.ids=d.ids:=hs.ids;rw[e2];rw[e1] at hp;exact hw.now p hp
   ·intro p hp;have e1:d1.safe=d.safe:=hs.safe;have e2:d1.ids=d.ids:=hs.ids;rw[e2];rw[e1] at hp;exact hw.safe p hp
   ·intro p hp;have e1:d1.moves=d.moves:=hs.moves;have e2:d1.ids=d.ids:=hs.ids;rw[e2];rw[e1] at hp;exact hw.moves p hp
   ·intro p hp;have e1:d1.node=d.node:=hs.node;have e2:d1.ids=d.ids:=hs.ids;rw[e1];rw[e2] at hp;exact hw.part p hp
   ·have e2:d1.ids=d.ids:=hs.ids;rw[e2];exact hw.ids
   ·have e1:d1.node=d.node:=hs.node;have e2:d1.ids=d.ids:=hs.ids;rw[e1];rw[e2] at hx;exact hd x hx
   ·rcases aU.1 h with h|h
    ·exact ha l h
    ·obtain rfl:=fP.1 h;exact hl
  ·rw[Vg hr he];exact ha
theorem uT{w:World}{b c:Nat}{x y:Array Value}{e f:TypeId}{p q:Nat×Nat}(h:w.heap[b]?=some (.cells x e p))(h':w.heap[c]?=some (.cells y f q))(hne:e≠f):b≠c:=by
 rintro rfl;rw[h] at h';injection h' with h';injection h' with h1 h2 h3;exact hne h2
def As(fb rb:Nat)(vs:List Value)(b:Nat):Prop:=b=fb\/b=rb\/∃(j:Nat)(u:Value),vs[j]?=some u/\u.ownBlock=some b
theorem Hd.ph{F Sh:Nat->Prop}{a:Nat}{d d2:D}{w w':World}{T:Array Value}{gen:Nat}{ids:List Int}{bss:List (List UInt8)}{mb fb rb sx sb Cb:Nat}{ia:Option Addr}{ic:Nat}{vs:List Value}(h:Hd F a d w T w' gen ids bss mb fb rb sx sb Cb ia ic vs d2)
 (W:jh zone Sh w')(hSh:∀b,Sh b->b<w.heap.size)(hgl:prog.globals.size<=w.heap.size)(hlen:∀l∈bss,l.length<=1099511627776):
 ∃g c2,Ph w' Sh Cb fb rb ids.length ids.length mb sx sb g ids.length c2 ids bss (As fb rb vs):=by
 obtain⟨n1,n2,n3,n4,n5,n6⟩:=h.new;have ns:∀b,w.heap.size<=b->¬Sh b:=λb hb hs=>by have:=hSh b hs;omega
 have hC:=h.hcb;have hmb:w'.heap[mb]?=some (.cells #[.int .u64 gen,.slice ia ids.length ic] 125):=h.hmb;have hfb:w'.heap[fb]?=some (.cells #[.slice (some ⟨rb,0,none⟩) ids.length ids.length] 128):=h.hfb;have hsx:w'.heap[sx]?=some (.cells #[.pointer (some ⟨sb,0,none⟩)] 32):=h.hsx;have hsb:w'.heap[sb]?=some (.cells #[o7 a,.int .u64 gen,.slice ia ids.length ic,.slice (some ⟨Cb,0,none⟩) ids.length ids.length,.map none,.int .i64 0] 138):=h.hsb;have hrb:=h.hrow.row;have hn:=h.uI.1;have hvb:∀(j:Nat)(u:Value),vs[j]?=some u->∃b,bss[j]?=some b:=λj u hu=>by
  have:=(aT.1 hu).1;rw[h.hrow.len] at this;exact⟨_,au this⟩
 have hic:∃g c2,0<ids.length->ids.length<=c2/\g<w'.heap.size/\g≠Cb/\¬Sh g/\(.slice ia ids.length ic:Value)=.slice (some ⟨g,0,none⟩) ids.length c2/\∀i,i<ids.length->w'.cell? ⟨g,i,none⟩=some (.int .i64 (ids.getD i 0)):=by
  rcases h.jU.2 with⟨_,h0⟩|⟨g,cap,cur,he,hg,hb,h1,h2,h3,h4⟩
  ·exact⟨0,0,λh=>by omega⟩
  ·refine⟨g,cap,λ_=>⟨h1,Bi.lt_of_some hb,uT hb hC (by decide),ns g hg,he,λi hi=>?_⟩⟩;have e1:(ids.map (Value.int .i64))[i]?=some (.int .i64 (ids.getD i 0)):=by
    rw[aZ,au hi];simp[List.getD,au hi]
   rw[<-h4,dA,if_pos (by omega),dG] at e1;simp[World.cell?,hb,e1]
 obtain⟨g,c2,hic⟩:=hic;refine⟨g,c2,W,ay hgl h.jr.size,⟨by omega,aj _,aj _,λh=>(hic h).1⟩,hfb,.inl rfl,?_,?_,?_,?_,?_,?_,?_⟩
 ·rintro b (rfl|rfl|⟨j,u,hu,hb⟩)
  ·refine⟨by omega,Bi.lt_of_some hfb,uT hfb hC (by decide),ns _ n2,_,_,_,hfb,λv hv=>?_⟩;obtain rfl:v=.slice (some ⟨rb,0,none⟩) ids.length ids.length:=by simpa using hv
   exact .slice _ _ _ (.inr (.inl rfl))
  ·refine⟨by omega,Bi.lt_of_some hrb,uT hrb hC (by decide),ns _ n3,_,_,_,hrb,λv hv=>?_⟩;replace hv:v∈vs++List.replicate (ids.length - bss.length) (Value.slice none 0 0):=by simpa using hv
   rcases aU.1 hv with hv|hv
   ·obtain⟨j,hj⟩:=dY hv;obtain⟨l,hl⟩:=hvb j v hj;obtain⟨o1,o2⟩:=h.hrow.at_ j v l hj hl;rcases o1.2 with⟨rfl,_⟩|⟨g',cap,cur,rfl,_⟩
    ·exact .gy _ _
    ·exact .slice _ _ _ (.inr (.inr ⟨j,_,hj,rfl⟩))
   ·rw[List.eq_of_mem_replicate hv];exact .gy _ _
  ·obtain⟨l,hl⟩:=hvb j u hu;obtain⟨o1,o2⟩:=h.hrow.at_ j u l hu hl;rcases o1.2 with⟨rfl,_⟩|⟨g',cap,cur,rfl,hg,hcells,_⟩
   ·cases hb
   ·obtain rfl:g'=b:=by simpa [Value.ownBlock] using hb
    refine⟨by omega,Bi.lt_of_some hcells,uT hcells hC (by decide),ns _ hg,_,_,_,hcells,λv hv=>?_⟩;obtain⟨k,rfl⟩:=o2 _ _ _ _ rfl hcells v hv;exact .int _ _
 ·intro i hi;have hb:i<bss.length:=by rw[h.FY];exact hi
  have hv:i<vs.length:=by rw[h.hrow.len];exact hb
  obtain⟨o1,-⟩:=h.hrow.at_ i vs[i] bss[i] (au hv) (au hb);refine⟨vs[i],?_,?_,?_⟩
  ·simp[World.cell?,hrb,bH hv,hv]
  ·simpa [List.getD,au hb] using o1.bytes
  ·simpa [List.getD,au hb] using hlen _ (fE hb)
 ·refine⟨Bi.lt_of_some hmb,uT hmb hC (by decide),ns _ n1,λh0=>?_⟩;rw[<-(hic h0).2.2.2.2.1];simp[World.cell?,hmb]
 ·exact⟨Bi.lt_of_some hsx,uT hsx hC (by decide),ns _ n4,by simp[World.cell?,hsx]⟩
 ·exact⟨Bi.lt_of_some hsb,uT hsb hC (by decide),ns _ n5,by simp[World.cell?,hsb]⟩
 ·exactλh0=>let ⟨_,a2,a3,a4,_,a6⟩:=hic h0;⟨a2,a3,a4,a6⟩
 ·refine⟨ns _ n6,_,hC,?_⟩;simp[madeCells];omega
end
end
section
open Go.RowKit Go.Lib Go.Maps Dk Pl
open Go.Conc Go.Mw
open Zn (tp Full jh VP Zf Le)
open To (iZ jH L9 Iv GU To at_)
structure Jn(w:World)(Sh:Nat->Prop)(Cb n:Nat)(ids:List Int)(bss:List (List UInt8))(T:Array Value)(T':Array Value)(w':World)(Sh':Nat->Prop):Prop where
 hs:T'.size=118
 t11:T'[11]?=T[11]?
 t12:T'[12]?=some (.pointer (some ⟨w.heap.size,0,none⟩))
 al:∃v:Int,w'.heap[w.heap.size]?=some (.cells #[.int .i64 v] 143)
 dL:z_ w' Cb n ids bss
 Bl:∀i u g,i<n->w'.cell? ⟨Cb,2*i+1,none⟩=some u->u.ownBlock=some g->w.heap.size<=g
 old:∀e,e<w.heap.size->e≠Cb->w'.heap[e]?=w.heap[e]?
 size:w.heap.size<=w'.heap.size
 os:w'.os=w.os
 output:w'.output=w.output
 Wy:∀b,Sh b->Sh' b
 xQ:∀b,b<w.heap.size->Sh' b->Sh b
def ShJ(w w':World)(Sh:Nat->Prop)(n:Nat)(O:Nat->Nat->Prop)(bx:Nat->Nat)(b:Nat):Prop:=Sh b\/(w.heap.size+1<=b/\b<w'.heap.size/\¬∃i,i<n/\(O i b\/b=bx i))
theorem c0u{w w':World}{Sh:Nat->Prop}{Cb n:Nat}{ids:List Int}{bss:List (List UInt8)}{O:Nat->Nat->Prop}{bx:Nat->Nat}(W:jh zone Sh w)(hC:¬Sh Cb)(sH:Cb<w.heap.size)
 (hel:∀e,e<w.heap.size->e≠Cb->w'.heap[e]?=w.heap[e]?)(hR:∀i,i<n->uP w Sh Cb ids bss i (bx i) (O i) w')(hO:∀i b,O i b->w.heap.size+2<=b/\b<w'.heap.size)
 (hal:∃v:Int,w'.heap[w.heap.size]?=some (.cells #[.int .i64 v] 143))(hcb:∃cs:Array Value,w'.heap[Cb]?=some (.cells cs 154)/\cs.size=2*n)(hsz:w.heap.size+2<=w'.heap.size):jh zone (ShJ w w' Sh n O bx) w':=by
 have old:∀b,b<w.heap.size->ShJ w w' Sh n O bx b->Sh b:=λb hb h=>h.elim id λh=>by omega
 have hle:Le (Zf zone Sh w.heap.size) (Zf zone (ShJ w w' Sh n O bx) w'.heap.size):=⟨rfl,rfl,rfl,λb h=>⟨ak h.1 (by omega),λhs=>h.2 (old b h.1 hs)⟩⟩;have own:∀i b,i<n->(O i b\/b=bx i)->b<w'.heap.size/\¬ShJ w w' Sh n O bx b:=λi b hi h=>by
  have hb:w.heap.size+2<=b/\b<w'.heap.size:=h.elim (hO i b) λe=>by
   obtain⟨-,-,-,h4,h5⟩:=hR i hi;rw[e];exact⟨h4,Bi.lt_of_some h5⟩
  refine⟨hb.2,?_⟩;rintro(hs|⟨-,-,h3⟩)
  ·have:=W.sh b hs;omega
  ·exact h3 ⟨i,hi,h⟩
 refine⟨λb o hb hs ho=>?_,λb h=>?_,λb h=>?_⟩
 ·by_cases hbl:b<w.heap.size
  ·by_cases hbC:b=Cb
   ·subst hbC;obtain⟨cs,h1,h2⟩:=hcb;rw[h1] at ho;injection ho with ho;subst ho;refine .cells _ _ _ λv hv=>?_;obtain⟨k,hk,rfl⟩:=eY.1 hv;have hi:k/2<n:=by omega
    obtain⟨r1,⟨u,r2,r3,r4⟩,-⟩:=hR (k/2) hi;have hcell:w'.cell? ⟨b,k,none⟩=some cs[k]:=by simp[World.cell?,h1,hk]
    rcases Nat.mod_two_eq_zero_or_one k with hm|hm
    ·have e:2*(k/2)=k:=by omega
     rw[e,hcell] at r1;injection r1 with r1;rw[r1];exact .int _ _
    ·have e:2*(k/2)+1=k:=by omega
     rw[e,hcell] at r2;injection r2 with r2;rw[r2];rcases r3.2 with⟨rfl,_⟩|⟨g,cap,cur,fr,rfl,_⟩
     ·exact .gy _ _
     ·exact .slice _ _ _ (own _ g hi (.inl (r4 g rfl)))
   ·rw[hel b hbl hbC] at ho;exact(W.obj b o hbl (λh=>hs (.inl h)) ho).mono hle
  ·by_cases hb0:b=w.heap.size
   ·subst hb0;obtain⟨v,h1⟩:=hal;rw[h1] at ho;injection ho with ho;subst ho;refine .cells _ _ _ λx hx=>?_;obtain rfl:x=.int .i64 v:=by simpa using hx
    exact .int _ _
   ·have hex:∃i,i<n/\(O i b\/b=bx i):=dB λh=>hs (.inr ⟨by omega,hb,h⟩);obtain⟨i,hi,h⟩:=hex;obtain⟨-,-,r3,-,r5⟩:=hR i hi;rcases h with h|rfl
    ·obtain⟨o',h1,h2⟩:=r3 b h;rw[h1] at ho;injection ho with ho;subst ho;have hle2:Le {zone with D:=λc=>(c<w.heap.size/\c≠Cb/\¬Sh c)\/c=bx i\/O i c} (Zf zone (ShJ w w' Sh n O bx) w'.heap.size):=by
      refine⟨rfl,rfl,rfl,λc hc=>?_⟩;rcases hc with⟨c1,c2,c3⟩|h
      ·exact⟨by omega,λhs=>c3 (old c c1 hs)⟩
      ·exact own i c hi h.symm
     exact Zn.fK.mono hle2 h2
    ·rw[r5] at ho;injection ho with ho;subst ho;refine .cells _ _ _ λx hx=>?_;obtain rfl:x=.int .i64 i:=by simpa using hx
     exact .int _ _
 ·rcases h with h|h
  ·have:=W.sh b h;omega
  ·exact h.2.1
 ·obtain⟨h1,h2⟩:=W.base b h;exact⟨by omega,λhs=>h2 (old b h1 hs)⟩
theorem xf{k:Nat}(h:fX k=true)(h2:k≠12):kb k=true:=by
 cases h3:kb k with
 | true=>rfl
 | false=>
  unfold kb at h3;simp at h3;exfalso;have h3:k=12\/k=13\/k=14\/k=70\/k=71\/k=72\/k=73\/k=74\/k=75\/k=76\/k=77\/k=78:=by omega
  rcases h3 with rfl|rfl|rfl|rfl|rfl|rfl|rfl|rfl|rfl|rfl|rfl|rfl;all_goals first|exact h2 rfl|(revert h;decide)
variable[Go.ConcR.Payload][To.Lo]
theorem b7R{Sh:Nat->Prop}{Q:Exit->Act->World->(Nat->Prop)->Prop}{w:World}{Cb fb rb n fc mb sx sb ic c1 c2:Nat}{ids:List Int}{bss:List (List UInt8)}{DB:Nat->Prop}{T:Array Value}(h:Ph w Sh Cb fb rb n fc mb sx sb ic c1 c2 ids bss DB)(hI:Iv zone Sh Full ⟨T,[]⟩ w)
 (hT:T.size=118)(h4:T[4]?=some (.pointer (some ⟨mb,0,none⟩)))(h6:T[6]?=some (.pointer (some ⟨fb,0,none⟩)))(h11:T[11]?=some (.pointer (some ⟨sx,0,none⟩)))
 (hnext:∀T' w' Sh',Jn w Sh Cb n ids bss T T' w' Sh'->Iv zone Sh' (λk=>fX k=true) ⟨T',[]⟩ w'->iZ prog 14 (I9 10) Q ⟨T',[]⟩ w' Sh'):iZ prog 14 (I9 6) Q ⟨T,[]⟩ w Sh:=by
 intro b K cs Ψ hb hk hc;obtain⟨hCS,cs0,hC0,hCs⟩:=h.hcb;have sH:Cb<w.heap.size:=Bi.lt_of_some hC0;obtain⟨t8,df2,Pn,JA,-⟩:=h.hDB fb h.IB;have eb:∀(a:Act)(k:List Item),b.at a k=(base 14).at a k:=λa k=>by
  unfold Frame.at;rw[hb,hk];rfl
 rw[eb];refine b5e (kG:=uP w Sh Cb ids bss) h.W.sh h.pT JA ⟨cs0,hC0,hCs⟩ hCS Pn h.hn.1 Ix hT h4 h6 h11 (λc i b w' a1 a2 a3 a4 a5 a6 a7 a8=>b71 (λb hb=>hb.2) h a1 a2 a3 a4 a5 a6 a7 a8) ?_;intro w' T' O bx hl hel hR hO hd hal hcb hsz hos hou;have hW:=c0u h.W hCS sH hel hR hO hal hcb hsz;have old:∀b,b<w.heap.size->ShJ w w' Sh n O bx b->Sh b:=λb hb h=>h.elim id λh=>by omega
 have hAl:¬ShJ w w' Sh n O bx w.heap.size:=λh=>h.elim (λh'=>by have:=hI.W.sh _ h';omega) λh=>by omega
 refine⟨ShJ w w' Sh n O bx,λb h=>.inl h,.inr ⟨aj _,by omega,?_⟩,?_⟩
 ·rintro⟨i,hi,h|h⟩
  ·have:=hO i _ h;omega
  ·have:=(hR i hi).2.2.2.1;omega
 ·unfold joined;refine To.move rfl (λ_=>stepG_region_end) ?_;have eT:Act.put ⟨T',[]⟩ (some 78) (.tuple #[])=⟨T'.setIfInBounds 78 (.tuple #[]),[]⟩:=rfl;rw[eT,<-eb];have g:∀k,k≠78->(T'.setIfInBounds 78 (.tuple #[]))[k]?=T'[k]?:=λk hk=>aK (bP hk);refine hnext _ w' (ShJ w w' Sh n O bx) ⟨by simp[hl.size],?_,?_,hal,?_,?_,hel,by omega,hos,hou,λb h=>.inl h,old⟩ ⟨λt ht=>?_,λd hd=>(by cases hd),hW⟩ b K cs Ψ hb hk hc
  ·exact(g 11 (by decide)).trans (hl.keep 11 (by decide))
  ·exact(g 12 (by decide)).trans hl.t12
  ·intro i hi;obtain⟨r1,⟨u,r2,r3,-⟩,-⟩:=hR i hi;exact⟨r1,u,r2,r3⟩
  ·intro i u g hi hu hg;obtain⟨-,⟨u',r2,-,r4⟩,-⟩:=hR i hi;rw[hu] at r2;injection r2 with r2;subst r2;have:=hO i g (r4 g hg);omega
  ·show VP _ ((T'.setIfInBounds 78 (.tuple #[])).getD t undef);have tf:t≠78:=by rintro rfl;revert ht;decide
   rw[aA,g t tf];by_cases h12:t=12
   ·subst h12;rw[hl.t12];exact .ptr _ ⟨by show w.heap.size<_;omega,hAl⟩
   ·rw[hl.keep t (xf ht h12),<-aA];have hle:Le (Zf zone Sh w.heap.size) (Zf zone (ShJ w w' Sh n O bx) w'.heap.size):=⟨rfl,rfl,rfl,λb h=>⟨ak h.1 (by omega),λhs=>h.2 (old b h.1 hs)⟩⟩;exact(hI.tmps t trivial).mono hle
end
end Go.Proofs.YtgpbhjjajpbeeaaGreatDoor
