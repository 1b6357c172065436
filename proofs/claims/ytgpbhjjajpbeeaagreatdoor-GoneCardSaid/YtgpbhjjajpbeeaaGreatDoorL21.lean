/- A part of what the last file proves. -/
import Derived.Test.YtgpbhjjajpbeeaaGreatDoorL20
set_option linter.all false
set_option maxRecDepth 100000
set_option maxHeartbeats 2000000
namespace Go.Proofs.YtgpbhjjajpbeeaaGreatDoor
section
open Go.RowKit Go.Conc Go.Conc.Lib Go.Mw Go.To
open Go.ConcN (WgLive)
open Go.ConcR (WgAt)
open Zn (tp)
open Go.Mc (Pz a0f R0 D0 W0 Spawns Fin a0D a0t Works)
set_option linter.unusedSectionVars false
variable[Go.ConcR.Payload]
abbrev c0p:Oper:={dst:=some 12,op:=.alloc 143,type:=0,pos:= "keydir.go:115",after:=#[],guard:=none}
abbrev c0q:Oper:={dst:=some 13,op:=.alloc 149,type:=0,pos:= "keydir.go:116",after:=#[],guard:=none}
abbrev a4O:Array Oper:=#[{dst:=some 70,op:=.load 128 (.tmp 6),type:=128,pos:= "keydir.go:117",after:=#[],guard:=none},
 {dst:=some 71,op:=.call {callee:=.builtin .len,args:=#[.tmp 70],argTypes:=#[128]},type:=3,pos:= "keydir.go:117",after:=#[{on:=0,ground:=.data}],guard:=none},
 {dst:=some 72,op:=.move (.const (.int .i64 0)),type:=3,pos:= "keydir.go:117",after:=#[],guard:=none}]
theorem c4M:H8 6=.seq (.region 16 #[c0p] false) (H8 7):=by kernel_rfl
theorem c4N:H8 7=.seq (.region 17 #[c0q] false) (H8 8):=by kernel_rfl
theorem c4O:H8 8=.seq (.seq (.region 18 a4O false) (.block 2 (.loop Z7))) (H8 9):=by kernel_rfl
theorem c0r(ρ:Operand->Value)(w:World):(execOp ρ c0p).run Tryz.prog w=.ok (.value (.pointer (some ⟨w.heap.size,0,none⟩))) (w.alloc (.cells #[.int .i64 0] 143))/\(execOp ρ c0p).events Tryz.prog w #[]=#[]:=by
 constructor<;>simp[go_sem]
theorem c0s(ρ:Operand->Value)(w:World):(execOp ρ c0q).run Tryz.prog w=.ok (.value (.pointer (some ⟨w.heap.size,0,none⟩))) (w.alloc (.cells #[.int .u64 0,.int .u32 0] 149))/\(execOp ρ c0q).events Tryz.prog w #[]=#[]:=by
 constructor<;>simp[go_sem]
theorem b56{ρ:Operand->Value}{a:Option Addr}{n c:Nat}(h:ρ (.tmp 70)=.slice a n c)(w:World):(execOp ρ a4O[1]).run Tryz.prog w=.ok (.value (.int .i64 n)) w/\(execOp ρ a4O[1]).events Tryz.prog w #[]=#[]:=by
 constructor<;>simp[go_sem,h]
theorem b7L{ρ:Operand->Value}{ad:Addr}{v:Value}(h:ρ (.tmp 6)=.pointer (some ad)){w:World}(hc:w.cell? ad=some v):(execOp ρ a4O[0]).run Tryz.prog w=.ok (.value v) w/\(execOp ρ a4O[0]).events Tryz.prog w #[]=#[⟨.cell ad,false,false⟩]:=by
 constructor<;>simp[go_sem,h,hc]
section
variable{P:Program}{B:Nat}{b:Frame}{a:Act}{k:List Item}{cs:List Frame}{w:World}{Sh:Nat->Prop}{Ψ:Goroutine->World->(Nat->Prop)->Prop}
theorem b57[To.Lo]{ops:Array Oper}{i:Nat}{rest:List Nat}{o:Oper}(ho:ops[i]?=some o)(hw:Region.wanted o (yielded ops a.tmps)=true)(hk:b.kind≠.early)(he:∀w,(execOp a.eval o).events P w #[]=#[])
 (h:∀τ p,∃v w',(execOp a.eval o).run P (tp w τ p)=.ok (.value v) w'/\ToB P B (G (b.at (a.put o.dst v) (.inRegion ops rest::k)) cs) w' Sh Ψ):ToB P B (G (b.at a (.inRegion ops (i::rest)::k)) cs) w Sh Ψ:=by
 refine ToB.step rfl fun τ p=>?_;obtain⟨v,w',h1,h2⟩:=h τ p;refine⟨_,w',_,B,stepG_value ho hw hk h1,Nat.le_refl _,?_,h2⟩;rw[show listed P b.fn a o (tp w τ p)=#[] by unfold listed;rw[he];exact seen_none _ _];simp
end
section
variable{Z:Pz}{j:Nat}{Next Next':Option Nat->Goroutine->World->Prop}{x:Option Nat}{g:Goroutine}{w:World}{A A':Goroutine->World->Prop}
open Mc
theorem b4D(h:∀x g w,Next x g w->Next' x g w)(k:AtGoS Z j Next x g w):AtGoS Z j Next' x g w:=let ⟨a,b,g',c,h1,h2,h3,h4,h5⟩:=k;⟨a,b,g',c,h1,h2,h3,h4,h _ _ _ h5⟩
theorem b4E(h:∀x g w,Next x g w->Next' x g w)(k:AtKeS Z j Next x g w):AtKeS Z j Next' x g w:=let ⟨a,g',b,c⟩:=k;⟨a,g',b,Z4 (fun _ _ _=>b4D h) c⟩
theorem b7M(h:∀x g w,Next x g w->Next' x g w)(k:AtA1 Z j Next x g w):AtA1 Z j Next' x g w:=let ⟨a,b⟩:=k;⟨a,fun v hv hw=>let ⟨g',c,d⟩:=b v hv hw;⟨g',c,Z4 (fun _ _ _=>b4E h) d⟩⟩
theorem b4F(h:∀x g w,Next x g w->Next' x g w)(k:AtKdS Z j Next x g w):AtKdS Z j Next' x g w:=let ⟨a,g',b,c⟩:=k;⟨a,g',b,Z4 (fun _ _ _=>b7M h) c⟩
theorem b21(h:∀g w,A g w->A' g w):∀(r:Nat)(x:Option Nat)(g:Goroutine)(w:World),Spawns Z (Fin Z A) r x g w->Spawns Z (Fin Z A') r x g w:=by
 intro r
 induction r with
 | zero=>exact fun x g w⟨a,b⟩=>⟨a,Z4 (fun _ _ _=>b03 h) b⟩
 | succ r ih=>exact fun x g w k=>Z4 (Stop:=AtKdS Z (Z.n - (r+1)) (Spawns Z (Fin Z A) r)) (fun _ _ _=>b4F ih) k
end
noncomputable def mkZ(w:World)(Sh:Nat->Prop)(Cb fb:Nat)(v0:Value)(n:Nat)(Res:Nat->Nat->(Nat->Prop)->World->Prop):Pz:=
 {P:=Tryz.prog,ty:=149,Wg:=w.heap.size+1,Al:=w.heap.size,tAl:=143,Cb:=Cb,tCb:=154,c:=0,n:=n,L0:=w.heap.size+2,Eld:=fun b=>b<w.heap.size/\b≠Cb/\¬Sh b,ShB:=Sh,Res:=Res,e0:=fb,v0:=v0}
section
variable{Z:Pz}{c d:Nat}{T0:Array Value}{V4 V6 V11:Value}{K:List Item}{cs:List Frame}{x:Option Nat}{w w':World}{g:Goroutine}
theorem c2T(h:R0 (at_ Z c) x w w'):R0 (at_ Z d) x w w':=⟨h.size,h.eld,h.cur,h.live,h.shb⟩
theorem a8W{T:Array Value}{j:Nat}(h:Lay (at_ Z c) T0 V4 V6 V11 T j):Lay (at_ Z d) T0 V4 V6 V11 T j:=⟨h.size,h.t4,h.t6,h.t11,h.t12,h.t13,h.t71,h.t72,h.keep⟩
theorem a6D{w00:World}(h:a5J (at_ Z c) w00 T0 V4 V6 V11 K cs g w):a5J (at_ Z d) w00 T0 V4 V6 V11 K cs g w:=by
 obtain⟨T,h1,T',h2,h3,h4,h5⟩:=h;exact⟨T,a8W h1,T',h2,h3,h4,c2T h5.1,h5.2⟩
theorem b7N(h:b53 (at_ Z c) T0 V4 V6 V11 K cs g w):b53 (at_ Z d) T0 V4 V6 V11 K cs g w:=let ⟨T,h1,h2⟩:=h;⟨T,a8W h1,h2⟩
end
section
variable{w:World}{Sh:Nat->Prop}{Cb fb n:Nat}{fa:Option Addr}{fc:Nat}{Res:Nat->Nat->(Nat->Prop)->World->Prop}{V4 V11:Value}{K:List Item}{cs:List Frame}{T:Array Value}{Ψ:Goroutine->World->(Nat->Prop)->Prop}
theorem c0t{v0:Value}(hSh:∀b,Sh b->b<w.heap.size)(hCb:Cb<w.heap.size)(hShC:¬Sh Cb)(hfb:fb<w.heap.size)(hShf:¬Sh fb)(hne:fb≠Cb)
 (hres:∀i bx O w1 w2,w1.heap.size<=w2.heap.size->w2.heap[bx]?=w1.heap[bx]?->(∀b,O b->w2.heap[b]?=w1.heap[b]?)->(∀k,Mc.myCell i k->w2.cell? ⟨Cb,k,none⟩=w1.cell? ⟨Cb,k,none⟩)->Res i bx O w1->Res i bx O w2){c:Nat}(hc:0<c):a0f (at_ (mkZ w Sh Cb fb v0 n Res) c):=by
 refine⟨hc,?_,?_,?_,?_,?_,?_,?_,?_,?_,hres⟩
 ·show w.heap.size+1≠w.heap.size;omega
 ·show w.heap.size+1≠Cb;omega
 ·show w.heap.size≠Cb;omega
 ·show w.heap.size+1<w.heap.size+2;omega
 ·show w.heap.size<w.heap.size+2;omega
 ·show Cb<w.heap.size+2;omega
 ·rintro b ⟨h1,h2,h3⟩;exact⟨show b<w.heap.size+2 by omega,show b≠w.heap.size+1 by omega,show b≠w.heap.size by omega,h2,h3⟩
 ·intro b (h:Sh b);have:=hSh b h;exact⟨show b<w.heap.size+2 by omega,show b≠w.heap.size+1 by omega,show b≠w.heap.size by omega,fun e=>hShC (by have e':b=Cb:=e;exact e'▸h)⟩
 ·exact⟨hfb,hne,hShf⟩
theorem b4G[To.Lo](hSh:∀b,Sh b->b<w.heap.size)(hfb:w.heap[fb]?=some (.cells #[.slice fa n fc] 128))(hShf:¬Sh fb)(hCb:∃cs0:Array Value,w.heap[Cb]?=some (.cells cs0 154)/\cs0.size=2*n)(hShC:¬Sh Cb)(hne:fb≠Cb)(hn:n<2147483648)
 (hres:∀i bx O w1 w2,w1.heap.size<=w2.heap.size->w2.heap[bx]?=w1.heap[bx]?->(∀b,O b->w2.heap[b]?=w1.heap[b]?)->(∀k,Mc.myCell i k->w2.cell? ⟨Cb,k,none⟩=w1.cell? ⟨Cb,k,none⟩)->Res i bx O w1->Res i bx O w2)
 (hT:T.size=118)(h4:T[4]?=some V4)(h6:T[6]?=some (.pointer (some ⟨fb,0,none⟩)))(h11:T[11]?=some V11)
 (hworks:∀c i b w',0<c->i<n->w.heap.size+2<=b->(∀e,e<w.heap.size->e≠Cb->¬Tr Sh e->w'.heap[e]?=w.heap[e]?)->w'.heap[b]?=some (.cells #[.int .i64 i] 3)->a0D (mkZ w (Tr Sh) Cb fb (.slice fa n fc) n Res) w'->a0t (mkZ w (Tr Sh) Cb fb (.slice fa n fc) n Res) w'->
   WgLive 149 (w.heap.size+1) w'->Works (at_ (mkZ w (Tr Sh) Cb fb (.slice fa n fc) n Res) c) i b (born Tryz.prog (b54 (mkZ w (Tr Sh) Cb fb (.slice fa n fc) n Res) V4 (.pointer (some ⟨fb,0,none⟩)) V11 b)) w')
 (hnext:∀(w':World)(T':Array Value)(O:Nat->Nat->Prop)(bx:Nat->Nat),Lay (mkZ w (Tr Sh) Cb fb (.slice fa n fc) n Res) T V4 (.pointer (some ⟨fb,0,none⟩)) V11 T' n->(∀e,e<w.heap.size->e≠Cb->w'.heap[e]?=w.heap[e]?)->(∀i,i<n->Res i (bx i) (O i) w')->
   (∀i b,O i b->w.heap.size+2<=b/\b<w'.heap.size)->(∀i k b,O i b->O k b->i=k)->a0D (mkZ w (Tr Sh) Cb fb (.slice fa n fc) n Res) w'->a0t (mkZ w (Tr Sh) Cb fb (.slice fa n fc) n Res) w'->w.heap.size+2<=w'.heap.size->w'.os=w.os->w'.output=w.output->
   ∃Sh':Nat->Prop,(∀b,Sh b->Sh' b)/\Sh' (w.heap.size+1)/\To Tryz.prog (G (joined T' K) cs) w' Sh' Ψ):
 To Tryz.prog (G ((base 14).at ⟨T,[]⟩ (.code (H8 6)::K)) cs) w Sh Ψ:=by
 have hfl:fb<w.heap.size:=Bi.lt_of_some hfb;obtain⟨cs0,hCb0,hcs0⟩:=hCb;have hShf':¬Tr Sh fb:=fun hs=>hShf hs.2;have hCl:Cb<w.heap.size:=Bi.lt_of_some hCb0;rw[c4M];refine ToB.move rfl (fun _=>stepG_seq) (ToB.move rfl (fun _=>stepG_region) ?_);refine b57 (i:=0) (rest:=[]) (o:=c0p) rfl rfl (by decide) (fun w=>(c0r _ w).2) fun τ p=>⟨_,tp (w.alloc (.cells #[.int .i64 0] 143)) τ p,(c0r _ _).1,ToB.to_tp ?_⟩;have eT:Act.put ⟨T,[]⟩ c0p.dst (.pointer (some ⟨(tp w τ p).heap.size,0,none⟩))=⟨T.setIfInBounds 12 (.pointer (some ⟨w.heap.size,0,none⟩)),[]⟩:=rfl;rw[eT];clear eT;have t12:(T.setIfInBounds 12 (.pointer (some ⟨w.heap.size,0,none⟩)))[12]?=some (.pointer (some ⟨w.heap.size,0,none⟩)):=a0o (by omega);have t4:=C9 (u:=.pointer (some ⟨w.heap.size,0,none⟩)) (j:=12) h4 (by decide);have t6:=C9 (u:=.pointer (some ⟨w.heap.size,0,none⟩)) (j:=12) h6 (by decide);have t11:=C9 (u:=.pointer (some ⟨w.heap.size,0,none⟩)) (j:=12) h11 (by decide);have hs1:(T.setIfInBounds 12 (.pointer (some ⟨w.heap.size,0,none⟩))).size=118:=by simp[hT]
 have kp:=a3W (T:=T) (T0:=T) (fun _ _=>rfl) 12 (by decide) (.pointer (some ⟨w.heap.size,0,none⟩));generalize T.setIfInBounds 12 (.pointer (some ⟨w.heap.size,0,none⟩))=T1 at t12 t4 t6 t11 hs1 kp⊢;have z1:=a4r w (.cells #[.int .i64 0] 143);have n1:=b4C w (.cells #[.int .i64 0] 143);have o1:=fun b=>a6C w (.cells #[.int .i64 0] 143) (b:=b);have os1:(w.alloc (.cells #[.int .i64 0] 143)).os=w.os:=rfl;have ou1:(w.alloc (.cells #[.int .i64 0] 143)).output=w.output:=rfl;generalize w.alloc (.cells #[.int .i64 0] 143)=w1 at z1 n1 o1 os1 ou1⊢;rw[c4N];refine ToB.move rfl (fun _=>stepG_region_end) (ToB.move rfl (fun _=>stepG_seq) (ToB.move rfl (fun _=>stepG_region) ?_));refine b57 (i:=0) (rest:=[]) (o:=c0q) rfl rfl (by decide) (fun w=>(c0s _ w).2) fun τ p=>⟨_,tp (w1.alloc (.cells #[.int .u64 0,.int .u32 0] 149)) τ p,(c0s _ _).1,ToB.to_tp ?_⟩;have eT:Act.put ⟨T1,[]⟩ c0q.dst (.pointer (some ⟨(tp w1 τ p).heap.size,0,none⟩))=⟨T1.setIfInBounds 13 (.pointer (some ⟨w1.heap.size,0,none⟩)),[]⟩:=rfl;rw[eT];clear eT;rw[z1];have t13:(T1.setIfInBounds 13 (.pointer (some ⟨w.heap.size+1,0,none⟩)))[13]?=some (.pointer (some ⟨w.heap.size+1,0,none⟩)):=a0o (by omega);replace t4:=C9 (u:=.pointer (some ⟨w.heap.size+1,0,none⟩)) (j:=13) t4 (by decide);replace t6:=C9 (u:=.pointer (some ⟨w.heap.size+1,0,none⟩)) (j:=13) t6 (by decide);replace t11:=C9 (u:=.pointer (some ⟨w.heap.size+1,0,none⟩)) (j:=13) t11 (by decide);replace t12:=C9 (u:=.pointer (some ⟨w.heap.size+1,0,none⟩)) (j:=13) t12 (by decide);replace hs1:(T1.setIfInBounds 13 (.pointer (some ⟨w.heap.size+1,0,none⟩))).size=118:=by simp[hs1]
 replace kp:=a3W kp 13 (by decide) (.pointer (some ⟨w.heap.size+1,0,none⟩));generalize T1.setIfInBounds 13 (.pointer (some ⟨w.heap.size+1,0,none⟩))=T2 at t13 t12 t4 t6 t11 hs1 kp⊢;have z2:=a4r w1 (.cells #[.int .u64 0,.int .u32 0] 149);have n2:=b4C w1 (.cells #[.int .u64 0,.int .u32 0] 149);have o2:=fun b=>a6C w1 (.cells #[.int .u64 0,.int .u32 0] 149) (b:=b);have os2:(w1.alloc (.cells #[.int .u64 0,.int .u32 0] 149)).os=w1.os:=rfl;have ou2:(w1.alloc (.cells #[.int .u64 0,.int .u32 0] 149)).output=w1.output:=rfl;generalize w1.alloc (.cells #[.int .u64 0,.int .u32 0] 149)=w2 at z2 n2 o2 os2 ou2⊢;rw[z1] at n2;have old:∀b,b<w.heap.size->w2.heap[b]?=w.heap[b]?:=fun b hb=>(o2 b (by omega)).trans (o1 b hb);have hAl:w2.heap[w.heap.size]?=some (.cells #[.int .i64 0] 143):=(o2 _ (by omega)).trans n1;have hsz:w2.heap.size=w.heap.size+2:=by omega
 have hos:w2.os=w.os:=os2.trans os1;have hou:w2.output=w.output:=ou2.trans ou1;clear os1 ou1 os2 ou2 z1 n1 o1 z2 o2 w1 T1;rw[c4O];refine ToB.move rfl (fun _=>stepG_region_end) (ToB.move rfl (fun _=>stepG_seq) ?_);have hZ:=fun c hc=>c0t (w:=w) (Sh:=Tr Sh) (Cb:=Cb) (fb:=fb) (n:=n) (Res:=Res) (v0:=.slice fa n fc) (fun b hb=>hSh b hb.2) hCl (fun hs=>hShC hs.2) hfl hShf' hne hres (c:=c) hc;have hwg:WgAt 149 (w.heap.size+1) w2 0 0:=n2;refine ToB.phase (Z:=mkZ w (Tr Sh) Cb fb (.slice fa n fc) n Res) (Sh:=Sh) (B:=w.heap.size) (Cont:=b53 (at_ (mkZ w (Tr Sh) Cb fb (.slice fa n fc) n Res) 1) T V4 (.pointer (some ⟨fb,0,none⟩)) V11 K cs)
  (AnchW:=fun g w'=>∃w00,a5J (at_ (mkZ w (Tr Sh) Cb fb (.slice fa n fc) n Res) 1) w00 T V4 (.pointer (some ⟨fb,0,none⟩)) V11 K cs g w') rfl hZ hn rfl (by show w.heap.size<=w.heap.size+2;omega) (by show w.heap.size<=w.heap.size+1;omega) (Nat.le_refl _)
  (by show w.heap.size+2<=_;omega) ⟨0,hAl⟩ ⟨cs0,(old _ hCl).trans hCb0,hcs0⟩ hwg (fun g w⟨_,h⟩=>b7H g w h) ?_ ?_ ?_
 ·rintro c hc x g w' ⟨w00,h⟩;exact Z4 (fun y g w=>b0Z (fun g w=>b7N) fun g w h=>⟨w00,a6D h⟩) (b7I (hZ c hc) rfl rfl g w' (a6D h))
 ·intro c τ p hc;have hZc:=hZ c hc;have hKn:Kn (at_ (mkZ w (Tr Sh) Cb fb (.slice fa n fc) n Res) c) none (tp w2 τ p) (tp w2 τ p):=⟨Mc.R0.refl _ _ _,⟨0,0,hwg⟩⟩;have t70:(T2.setIfInBounds 70 (.slice fa n fc))[70]?=some (.slice fa n fc):=a0o (by omega);have hl:Lay (at_ (mkZ w (Tr Sh) Cb fb (.slice fa n fc) n Res) c) T V4 (.pointer (some ⟨fb,0,none⟩)) V11 (((T2.setIfInBounds 70 (.slice fa n fc)).setIfInBounds 71 (.int .i64 n)).setIfInBounds 72 (.int .i64 0)) 0:=by
   refine⟨by simp[hs1],?_,?_,?_,?_,?_,?_,?_,a3W (a3W (a3W kp 70 (by decide) _) 71 (by decide) _) 72 (by decide) _⟩
   ·exact C9 (C9 (C9 t4 (by decide)) (by decide)) (by decide)
   ·exact C9 (C9 (C9 t6 (by decide)) (by decide)) (by decide)
   ·exact C9 (C9 (C9 t11 (by decide)) (by decide)) (by decide)
   ·exact C9 (C9 (C9 t12 (by decide)) (by decide)) (by decide)
   ·exact C9 (C9 (C9 t13 (by decide)) (by decide)) (by decide)
   ·exact C9 (a0o (by simp[hs1])) (by decide)
   ·exact a0o (by simp[hs1])
  have hh:=b7K (K:=K) (cs:=cs) hZc rfl rfl hn (w00:=tp w2 τ p) (T0:=T) (V4:=V4) (V6:=.pointer (some ⟨fb,0,none⟩)) (V11:=V11) (by show w.heap.size+2<=w2.heap.size;omega)
   (fun i b w' hi hb hr hbx hal hcb hlv=>hworks c i b w' hc hi hb (fun e h1 h2 h3=>(hr.eld e ⟨h1,h2,h3⟩).trans (old e h1)) hbx hal hcb hlv) n 0 _ (tp w2 τ p) (Nat.zero_add n) hl hKn
  refine b21 (fun g w h=>⟨tp w2 τ p,a6D h⟩) _ _ _ _ (a7k (fun Stop hk=>?_) hh);clear hh;refine L8 rfl (fun _=>stepG_seq) (L8 rfl (fun _=>stepG_region) ?_);refine c1p (i:=0) (rest:=[1,2]) (o:=a4O[0]) rfl rfl (by decide) fun w₁ h₁=>?_;have hfw:w₁.heap[fb]?=some (.cells #[.slice fa n fc] 128):=(h₁.eld fb ⟨hfl,hne,hShf'⟩).trans ((old fb hfl).trans hfb);have hcell:w₁.cell? ⟨fb,0,none⟩=some (.slice fa n fc):=by simp[World.cell?,hfw]
  have hld:=b7L (J6 (ds:=[]) t6) hcell;refine⟨_,w₁,none,hld.1,⟨Nat.le_refl _,rfl,rfl,rfl,fun _ _ _=>rfl,.inl rfl,?_⟩,?_⟩
  ·rw[show listed (at_ (mkZ w (Tr Sh) Cb fb (.slice fa n fc) n Res) c).P (base 14).fn ⟨T2,[]⟩ a4O[0] w₁=#[⟨.cell ⟨fb,0,none⟩,false,false⟩] by show listed Tryz.prog (base 14).fn ⟨T2,[]⟩ a4O[0] w₁=_;unfold listed;rw[hld.2,seen_eq c0j (by simp)]];intro e he;rw[Array.mem_singleton] at he;subst he;exact⟨Bi.lt_of_some hfw,rfl,.inl ⟨⟨hfl,hne,hShf'⟩,rfl⟩⟩
  ·replace hk:=b6p hk h₁;refine a2k (i:=1) (rest:=[2]) (o:=a4O[1]) rfl rfl (by decide) (fun w=>(b56 (J6 (ds:=[]) t70) w).1) (fun w=>(b56 (J6 (ds:=[]) t70) w).2) ?_;refine a2k (i:=2) (rest:=[]) (o:=a4O[2]) (v:=.int .i64 0) rfl rfl (by decide) (fun w=>rfl) (fun w=>rfl) ?_;exact L8 rfl (fun _=>stepG_region_end) (L8 rfl (fun _=>stepG_block) (L8 rfl (fun _=>stepG_loop) hk))
 ·intro w' g' O bx ⟨T',hT',hm⟩ he hr hO hd hal hcb hL0 hos' hou';have hel:∀e,e<w.heap.size->e≠Cb->w'.heap[e]?=w.heap[e]?:=fun e h1 h2=>(he e ((Classical.em (Tr Sh e)).symm.imp (fun h3=>⟨h1,h2,h3⟩) id)).trans (old e h1);obtain⟨Sh',h1,h2,h3⟩:=hnext w' T' O bx (a8W (c:=1) (d:=0) hT') hel hr hO hd hal hcb hL0 (hos'.trans hos) (hou'.trans hou);exact⟨Sh',h1,h2,c3k hm h3⟩
end
end
section
open Go.RowKit Go.Conc Go.Conc.Lib Go.Mw Go.Mc Go.Bi
open Go.ConcN (WgLive Has AtR0)
open Pl
open Zn (ext low kk Gr K0 Nx Full tp WPs Zf)
open To (at_)
set_option linter.unusedSectionVars false
variable[Go.ConcR.Payload]
structure Ph(w:World)(Sh:Nat->Prop)(Cb fb rb n fc mb sx sb ic c1 c2:Nat)(ids:List Int)(bss:List (List UInt8))(DB:Nat->Prop):Prop where
 W:WPs zone Sh w
 gl:Tryz.prog.globals.size<=w.heap.size
 hn:n<2147483648/\n<=fc/\n<=c1/\(0<n->n<=c2)
 fbh:w.heap[fb]?=some (.cells #[.slice (some ⟨rb,0,none⟩) n fc] 128)
 DBfb:DB fb
 hDB:∀b,DB b->Tryz.prog.globals.size<=b/\b<w.heap.size/\b≠Cb/\¬Sh b/\∃c e fr,w.heap[b]?=some (.cells c e fr)/\∀v∈c,Plain DB v
 files:∀i,i<n->∃v,w.cell? ⟨rb,i,none⟩=some v/\Bytes w v (bss.getD i [])/\(bss.getD i []).length<=1099511627776
 hmb:mb<w.heap.size/\mb≠Cb/\¬Sh mb/\(0<n->w.cell? ⟨mb,1,none⟩=some (.slice (some ⟨ic,0,none⟩) n c2))
 hsx:sx<w.heap.size/\sx≠Cb/\¬Sh sx/\w.cell? ⟨sx,0,none⟩=some (.pointer (some ⟨sb,0,none⟩))
 hsb:sb<w.heap.size/\sb≠Cb/\¬Sh sb/\w.cell? ⟨sb,3,none⟩=some (.slice (some ⟨Cb,0,none⟩) n c1)
 hic:0<n->ic<w.heap.size/\ic≠Cb/\¬Sh ic/\∀i,i<n->w.cell? ⟨ic,i,none⟩=some (.int .i64 (ids.getD i 0))
 hcb:¬Sh Cb/\∃cs0:Array Value,w.heap[Cb]?=some (.cells cs0 154)/\cs0.size=2*n
def a5A(w:World)(Sh:Nat->Prop)(Cb:Nat)(ids:List Int)(bss:List (List UInt8))(i bx:Nat)(O:Nat->Prop)(w':World):Prop:=
 w'.cell? ⟨Cb,2*i,none⟩=some (.int .i64 (ids.getD i 0))/\
 (∃u,w'.cell? ⟨Cb,2*i+1,none⟩=some u/\a2p w' 160 7 u (J9 (bss.getD i [])).length ((J9 (bss.getD i [])).flatMap (O6 i))/\∀g,u.ownBlock=some g->O g)/\
 (∀b,O b->∃o,w'.heap[b]?=some o/\Zn.ObjP {zone with D:=fun b=>(b<w.heap.size/\b≠Cb/\¬Sh b)\/b=bx\/O b} o)/\w.heap.size+2<=bx/\w'.heap[bx]?=some (.cells #[.int .i64 i] 3)
theorem b0H{w:World}{Sh:Nat->Prop}{Cb:Nat}{ids:List Int}{bss:List (List UInt8)}:∀i bx O(w1 w2:World),w1.heap.size<=w2.heap.size->w2.heap[bx]?=w1.heap[bx]?->(∀b,O b->w2.heap[b]?=w1.heap[b]?)->(∀k,myCell i k->w2.cell? ⟨Cb,k,none⟩=w1.cell? ⟨Cb,k,none⟩)->a5A w Sh Cb ids bss i bx O w1->a5A w Sh Cb ids bss i bx O w2:=by
 rintro i bx O w1 w2 _ h2 h3 h4 ⟨a1,⟨u,a2,a3,a4⟩,a5,a6,a7⟩;exact⟨(h4 _ (.inl rfl)).trans a1,⟨u,(h4 _ (.inr rfl)).trans a2,a3.keep fun g hg=>h3 g (a4 g hg),a4⟩,fun b hb=>let ⟨o,h5,h6⟩:=a5 b hb;⟨o,(h3 b hb).trans h5,h6⟩,a6,h2.trans a7⟩
abbrev c4E:Oper:={dst:=none,op:=.defer {callee:=.value (.func 60),args:=#[.tmp 0],argTypes:=#[149]},type:=0,pos:= "keydir.go:120",after:=#[],guard:=none}
theorem b7v:a1I 0=.seq (.region 0 #[c4E] false) (a1I 1):=by kernel_rfl
theorem b7w:a1I 1=.seq workR1 (a1I 2):=by kernel_rfl
theorem b7x{w:World}{Sh St:Nat->Prop}(hSt:∀b,St b->Sh b){Cb fb rb n fc mb sx sb ic c1 c2:Nat}{ids:List Int}{bss:List (List UInt8)}{DB:Nat->Prop}(h:Ph w Sh Cb fb rb n fc mb sx sb ic c1 c2 ids bss DB){c i b:Nat}{w':World}(hc:0<c)(hi:i<n)(hb:w.heap.size+2<=b)
 (hel0:∀e,e<w.heap.size->e≠Cb->¬St e->w'.heap[e]?=w.heap[e]?)(hbx:w'.heap[b]?=some (.cells #[.int .i64 i] 3))(hal:a0D (mkZ w St Cb fb (.slice (some ⟨rb,0,none⟩) n fc) n (a5A w Sh Cb ids bss)) w')(hcb:a0t (mkZ w St Cb fb (.slice (some ⟨rb,0,none⟩) n fc) n (a5A w Sh Cb ids bss)) w')(hlv:WgLive 149 (w.heap.size+1) w'):
 Works (at_ (mkZ w St Cb fb (.slice (some ⟨rb,0,none⟩) n fc) n (a5A w Sh Cb ids bss)) c) i b (born Tryz.prog (b54 (mkZ w St Cb fb (.slice (some ⟨rb,0,none⟩) n fc) n (a5A w Sh Cb ids bss)) (.pointer (some ⟨mb,0,none⟩)) (.pointer (some ⟨fb,0,none⟩)) (.pointer (some ⟨sx,0,none⟩)) b)) w':=by
 obtain⟨hCS,cs0,hC0,hCs⟩:=h.hcb;have hCl:Cb<w.heap.size:=Bi.lt_of_some hC0;obtain⟨df1,df2,df3,df4,-⟩:=h.hDB fb h.DBfb;have hZ:a0f (at_ (mkZ w St Cb fb (.slice (some ⟨rb,0,none⟩) n fc) n (a5A w Sh Cb ids bss)) c):=c0t (fun b hb=>h.W.sh b (hSt b hb)) hCl (fun hs=>hCS (hSt _ hs)) df2 (fun hs=>df4 (hSt _ hs)) df3 b0H hc;have hL0:(at_ (mkZ w St Cb fb (.slice (some ⟨rb,0,none⟩) n fc) n (a5A w Sh Cb ids bss)) c).L0=w.heap.size+2:=rfl;have hEld:∀e,(e<w.heap.size/\e≠Cb/\¬Sh e)->(at_ (mkZ w St Cb fb (.slice (some ⟨rb,0,none⟩) n fc) n (a5A w Sh Cb ids bss)) c).Eld e:=fun e he=>⟨he.1,he.2.1,fun hs=>he.2.2 (hSt e hs)⟩;have hel:∀e,e<w.heap.size->e≠Cb->¬Sh e->w'.heap[e]?=w.heap[e]?:=fun e h1 h2 h3=>hel0 e h1 h2 fun hs=>h3 (hSt e hs);obtain⟨Z,hZe⟩:∃Z,Z=at_ (mkZ w St Cb fb (.slice (some ⟨rb,0,none⟩) n fc) n (a5A w Sh Cb ids bss)) c:=⟨_,rfl⟩;have zP:Z.P=Tryz.prog:=by rw[hZe];rfl
 have zt:Z.ty=149:=by rw[hZe];rfl
 have zC:(3:TypeId)≠Z.tCb:=by rw[hZe];show(3:Nat)≠154;decide
 have zn:Z.n=n:=by rw[hZe];rfl
 have zCb:Z.Cb=Cb:=by rw[hZe];rfl
 have zWg:Z.Wg=w.heap.size+1:=by rw[hZe];rfl
 have zAl:Z.Al=w.heap.size:=by rw[hZe];rfl
 have ze0:Z.e0=fb:=by rw[hZe];rfl
 have zv0:Z.v0=.slice (some ⟨rb,0,none⟩) n fc:=by rw[hZe];rfl
 have zR:Z.Res=a5A w Sh Cb ids bss:=by rw[hZe];rfl
 have ecall:b54 (mkZ w St Cb fb (.slice (some ⟨rb,0,none⟩) n fc) n (a5A w Sh Cb ids bss)) (.pointer (some ⟨mb,0,none⟩)) (.pointer (some ⟨fb,0,none⟩)) (.pointer (some ⟨sx,0,none⟩)) b =
  {target:=.fn (.func 59) #[.pointer (some ⟨w.heap.size+1,0,none⟩),.pointer (some ⟨b,0,none⟩),.pointer (some ⟨fb,0,none⟩),.pointer (some ⟨mb,0,none⟩),.pointer (some ⟨sx,0,none⟩),.pointer (some ⟨w.heap.size,0,none⟩)],args:=#[]}:=rfl
 rw[ecall];have zal:a0D Z w':=by rw[hZe];exact hal
 have zcb:a0t Z w':=by rw[hZe];exact hcb
 rw[<-hZe] at hZ hL0 hEld⊢;clear hal hcb ecall;clear hZe;have hbl:b<w'.heap.size:=Bi.lt_of_some hbx;have hN0:Nw Z (fun _=>False) w':=fun _ h=>h.elim;unfold Works;refine a1Q hN0 rfl (fun w=>by rw[zP];exact born_step _ w) ?_;have e29:(29:Nat) - (#[.pointer (some ⟨w.heap.size+1,0,none⟩),.pointer (some ⟨b,0,none⟩),.pointer (some ⟨fb,0,none⟩),.pointer (some ⟨mb,0,none⟩),.pointer (some ⟨sx,0,none⟩),.pointer (some ⟨w.heap.size,0,none⟩)]:Array Value).size=23:=rfl;rw[e29,b7v];have eT:(#[.pointer (some ⟨w.heap.size+1,0,none⟩),.pointer (some ⟨b,0,none⟩),.pointer (some ⟨fb,0,none⟩),.pointer (some ⟨mb,0,none⟩),.pointer (some ⟨sx,0,none⟩),.pointer (some ⟨w.heap.size,0,none⟩)]:Array Value)++Array.replicate 23 undef=#[.pointer (some ⟨w.heap.size+1,0,none⟩),.pointer (some ⟨b,0,none⟩),.pointer (some ⟨fb,0,none⟩),.pointer (some ⟨mb,0,none⟩),.pointer (some ⟨sx,0,none⟩),.pointer (some ⟨w.heap.size,0,none⟩),undef,undef,undef,undef,undef,undef,undef,undef,undef,undef,undef,undef,undef,undef,undef,undef,undef,undef,undef,undef,undef,undef,undef]:=by
  simp only[Array.replicate_succ,Array.replicate_zero,List.push_toArray,List.append_toArray,List.nil_append,List.cons_append]
 rw[eT];obtain⟨T2,hT2⟩:∃T2:Array Value,T2=#[.pointer (some ⟨w.heap.size+1,0,none⟩),.pointer (some ⟨b,0,none⟩),.pointer (some ⟨fb,0,none⟩),.pointer (some ⟨mb,0,none⟩),.pointer (some ⟨sx,0,none⟩),.pointer (some ⟨w.heap.size,0,none⟩),undef,undef,undef,undef,undef,undef,undef,undef,undef,undef,undef,undef,undef,undef,undef,undef,undef,undef,undef,undef,undef,undef,undef]:=⟨_,rfl⟩;rw[<-hT2];have t0:T2[0]?=some (.pointer (some ⟨w.heap.size+1,0,none⟩)):=by rw[hT2];rfl
 have ea:(#[.tmp 0]:Array Operand).map (Act.eval ⟨T2,[]⟩)=#[.pointer (some ⟨w.heap.size+1,0,none⟩)]:=by
  simp only[List.map_toArray,List.map_cons,List.map_nil];rw[J6 t0]
 refine a1Q hN0 rfl (fun _=>stepG_seq) (a1Q hN0 rfl (fun _=>stepG_region) ?_);refine a1Q hN0 rfl (fun _=>stepG_defer (o:=c4E) rfl (by rfl) (by decide) rfl) (a1Q hN0 rfl (fun _=>stepG_region_end) ?_);rw[show Act.put ⟨T2,dcall 60 ((#[.tmp 0]:Array Operand).map (Act.eval ⟨T2,[]⟩))::[]⟩ c4E.dst undef=⟨T2,[dcall 60 #[.pointer (some ⟨w.heap.size+1,0,none⟩)]]⟩ from by rw[ea];rfl];rw[b7w];refine a1Q hN0 rfl (fun _=>stepG_seq) ?_;obtain⟨v,hv1,hv2,hv3⟩:=h.files i hi;have hfbc:w.cell? ⟨fb,0,none⟩=some (.slice (some ⟨rb,0,none⟩) n fc):=by simp[World.cell?,h.fbh]
 obtain⟨n1,n2,n3,n4⟩:=h.hn;have hn0:0<n:=by omega
 obtain⟨i1,i2,i3,i4⟩:=h.hic hn0;have key:=c2I (Stop:=At7 Z i b) hZ zP h.W (.pointer (some ⟨w.heap.size+1,0,none⟩)) (.pointer (some ⟨mb,0,none⟩)) (.pointer (some ⟨sx,0,none⟩)) (.pointer (some ⟨w.heap.size,0,none⟩)) [dcall 60 #[.pointer (some ⟨w.heap.size+1,0,none⟩)]]
  (DB:=DB) (fun e he=>by
   obtain⟨d1,d2,d3,d4,d5⟩:=h.hDB e he;exact⟨d1,d2,hEld e ⟨d2,d3,d4⟩,hel e d2 d3 d4,d5⟩) h.DBfb df4 hfbc ⟨hi,n2,n1⟩ hv1 hv2 hv3 hbx ⟨by omega,by omega⟩ (by omega) (by omega) h.gl ?_
 ·rw[<-hT2] at key;exact key
 ·intro O u V2 x7 x8 x9 x10 x11 x12 w3 hN hOb hK hrow hrb hobj;obtain⟨ua,uc,rfl⟩:=hrow.slice;have hh:∀e,e<w.heap.size->e≠Cb->¬Sh e->w3.heap[e]?=w.heap[e]?:=fun e a1 a2 a3=>(hK.eld e (hEld e ⟨a1,a2,a3⟩)).trans (hel e a1 a2 a3);have hcl:∀e k,e<w.heap.size->e≠Cb->¬Sh e->w3.cell? ⟨e,k,none⟩=w.cell? ⟨e,k,none⟩:=fun e k a1 a2 a3=>ConcN.cell_of_block (hh e a1 a2 a3) k;obtain⟨m1,m2,m3,m4⟩:=h.hmb;obtain⟨s1,s2,s3,s4⟩:=h.hsx;obtain⟨t1,t2,t3,t4⟩:=h.hsb;have hw:HW Z i b O w3 mb sx sb ic c1 c2 (ids.getD i 0) w3:=by
   refine⟨hN,Nat.le_refl _,fun _ _=>rfl,⟨hEld _ ⟨m1,m2,m3⟩,hEld _ ⟨s1,s2,s3⟩,hEld _ ⟨t1,t2,t3⟩,hEld _ ⟨i1,i2,i3⟩,by rw[ze0];exact hEld _ ⟨df2,df3,df4⟩⟩,by rw[zn];exact⟨hi,n3,n4 hn0,n1⟩,hK.box.trans hbx,(hcl _ _ s1 s2 s3).trans s4,?_,?_,(hcl _ _ i1 i2 i3).trans (i4 i hi),hK.cb zcb,hK.al zal,hK.live (by rw[zt,zWg];exact hlv),?_⟩
   ·rw[zCb,zn];exact(hcl _ _ t1 t2 t3).trans t4
   ·rw[zn];exact(hcl _ _ m1 m2 m3).trans (m4 hn0)
   ·rw[ze0,zv0];exact(hcl _ _ df2 df3 df4).trans hfbc
  have hrest:=b7u hZ zP zt zC (by rw[zAl];omega) w3 V2 x7 x8 x9 x10 x11 x12 mb sx sb ic c1 c2 (ids.getD i 0) ua _ uc (fun w4 hF=>by
   rw[zR];refine⟨?_,⟨_,?_,hrow.keep fun g hg=>hF.hw.own g (hrb g hg),hrb⟩,fun e he=>?_,hb,hF.hw.box⟩
   ·rw[<-zCb];exact hF.c0
   ·rw[<-zCb];exact hF.c1
   ·obtain⟨o,o1,o2⟩:=hobj e he;have hle:Zn.Le {zone with D:=fun b'=>DB b'\/b'=b\/O b'} {zone with D:=fun b'=>(b'<w.heap.size/\b'≠Cb/\¬Sh b')\/b'=b\/O b'}:=by
     refine⟨rfl,rfl,rfl,?_⟩;rintro q (hq|hq)
     ·obtain⟨_,d2,d3,d4,_⟩:=h.hDB q hq;exact .inl ⟨d2,d3,d4⟩
     ·exact .inr hq
    exact⟨o,(hF.hw.own e he).trans o1,o2.mono hle⟩) w3 hw
  rw[zWg,zAl] at hrest;exact hrest
end
section
open Go.RowKit Go.Lib Go.Maps Dk Pl
open Zn (tp)
structure Chh(F:Nat->Prop)(w w':World):Prop where
 os:w'.os=w.os
 output:w'.output=w.output
 size:w.heap.size<=w'.heap.size
 block:∀b,b<w.heap.size->¬F b->w'.heap[b]?=w.heap[b]?
theorem Chh.refl(F:Nat->Prop)(w:World):Chh F w w:=⟨rfl,rfl,Nat.le_refl _,fun _ _ _=>rfl⟩
theorem Chh.trans{F:Nat->Prop}{a b c:World}(h:Chh F a b)(k:Chh F b c):Chh F a c:=
 ⟨k.os.trans h.os,k.output.trans h.output,Nat.le_trans h.size k.size,fun x hx hF=>(k.block x (Nat.lt_of_lt_of_le hx h.size) hF).trans (h.block x hx hF)⟩
theorem Chh.of{F G:Nat->Prop}{w w':World}{τ τ':Nat->Question->Nat}{p p':Nat}(h:Chg F G (tp w τ p) (tp w' τ' p')):Chh F w w':=⟨h.os,h.output,h.size,h.block⟩
theorem Chh.ext{F:Nat->Prop}{w w':World}{τ τ':Nat->Question->Nat}{p p':Nat}(h:Ext (tp w τ p) (tp w' τ' p')):Chh F w w':=⟨h.os,h.output,h.size,fun b hb _=>h.block b hb⟩
theorem Chh.less{F G:Nat->Prop}{w w':World}(h:Chh G w w')(hG:∀b,b<w.heap.size->G b->F b):Chh F w w':=⟨h.os,h.output,h.size,fun b hb hF=>h.block b hb fun hg=>hF (hG b hb hg)⟩
theorem Held.chh{w w':World}{F:Nat->Prop}{Φ:World->Prop}(h:Held w F Φ)(c:Chh F w w')(hl:∀b,F b->b<w.heap.size):Held w' F Φ:=by
 obtain⟨S,h1,h2⟩:=h;exact⟨S,fun b hb=>⟨Nat.lt_of_lt_of_le (h1 b hb).1 c.size,(h1 b hb).2⟩,fun w'' hw=>h2 w'' fun b hb=>(hw b hb).trans (c.block b (h1 b hb).1 (h1 b hb).2)⟩
theorem y9.of_tp{w:World}{τ:Nat->Question->Nat}{p:Nat}{F:Nat->Prop}{a:Nat}{d:D}(h:y9 (tp w τ p) F a d):y9 w F a d:=h.frame (fun _ _=>rfl) (Nat.le_refl _)
theorem y9.to_tp{w:World}{τ:Nat->Question->Nat}{p:Nat}{F:Nat->Prop}{a:Nat}{d:D}(h:y9 w F a d):y9 (tp w τ p) F a d:=h.frame (fun _ _=>rfl) (Nat.le_refl _)
theorem b7d:H8 0=.seq (N9 0) (H8 1):=by kernel_rfl
theorem b7e:H8 1=.seq (N9 1) (H8 2):=by kernel_rfl
theorem b7f:H8 2=.seq (N9 2) (H8 3):=by kernel_rfl
theorem b7g:H8 3=.seq (N9 3) (H8 4):=by kernel_rfl
theorem b7h:H8 4=.seq (N9 4) (H8 5):=by kernel_rfl
theorem b7i:H8 5=.seq (N9 5) (H8 6):=by kernel_rfl
theorem b4k:H8 10=.seq (N9 10) (H8 11):=by kernel_rfl
theorem b4l:H8 11=.seq (N9 11) (H8 12):=by kernel_rfl
theorem b4m:H8 12=.seq (N9 12) (H8 13):=by kernel_rfl
noncomputable def W9:List Code:=[N9 0,N9 1,N9 2,N9 3,N9 4,N9 5,N9 10,N9 11,N9 12,H8 13]
theorem b4n:W9.all (Zn.cOK zb)=true:=by kernel_rfl
theorem b0E{c:Code}(h:c∈W9):Zn.CodeP zone c:=Zn.cOK.sound (List.all_eq_true.1 b4n c h)
def fX(k:Tmp):Bool:=decide (k=11)||decide (k=12)||(decide (15<=k)&&decide (k<=18))||decide (79<=k)
theorem b7j:([N9 10,N9 11,N9 12,H8 13].all (Zn.useB fX))=true:=by kernel_rfl
theorem b9X{c:Code}(h:c∈[N9 10,N9 11,N9 12,H8 13]):Zn.CodeU (fun k=>fX k=true) c:=Zn.useB.sound (List.all_eq_true.1 b7j c h)
end
section
open Go.RowKit Go.Lib Go.Maps Dk Pl
open Zn (tp Full)
open To (wpT wpT_lone I4 Iv a6a)
set_option linter.unusedSectionVars false
def QO2(a mb:Nat)(w:World):Exit->Act->World->Prop
 | .normal,a',w'=>a'.defers=[]/\a'.tmps.size=118/\a'.tmps[0]?=some (y8 a)/\a'.tmps[4]?=some (.pointer (some ⟨mb,0,none⟩))/\w'=w
 | _,_,_=>False
theorem t2{a mb:Nat}(T:Array Value)(hT:T.size=118)(h0:T[0]?=some (y8 a))(h4:T[4]?=some (.pointer (some ⟨mb,0,none⟩)))(h5:T[5]?=some (.nilIface))(w:World):(N9 2).wp Tryz.prog (QO2 a mb w) ⟨T,[]⟩ w:=by
 rw[X5 (X5 (X5 (a13 T hT) (k:=0) (L6 h0)) (k:=4) (L6 h4)) (k:=5) (L6 h5)];generalize (fun k=>T.getD k undef)=x;clear hT h0 h4 h5;unfold N9 H8;simp only[Code.behind,Code.head,Tryz.f14,Option.getD_some,a6n,up,reduceIte,Nat.reduceEqDiff];go_wp2;exact⟨rfl,rfl,rfl,rfl,rfl⟩
def c5V(y:Value)(w:World):Exit->Act->World->Prop
 | .ret,a',w'=>a'.defers=[]/\a'.tmps[2]?=some (.pointer none)/\a'.tmps[3]?=some y/\w'=w
 | _,_,_=>False
theorem t2e{t:TypeId}{v:Value}(T:Array Value)(hT:T.size=118)(h5:T[5]?=some (.iface t v))(w:World):(N9 2).wp Tryz.prog (c5V (.iface t v) w) ⟨T,[]⟩ w:=by
 rw[X5 (a13 T hT) (k:=5) (L6 h5)];generalize (fun k=>T.getD k undef)=x;clear hT h5;unfold N9 H8;simp only[Code.behind,Code.head,Tryz.f14,Option.getD_some,a6n,up,reduceIte,Nat.reduceEqDiff];go_wp2;exact⟨rfl,rfl,rfl,rfl⟩
theorem err_iface{w:World}{y:Value}{er:Er}(h:ErrAt w y er)(he:er≠.ok):∃t v,y=.iface t v:=by
 cases er with
 | ok=>exact absurd rfl he
 | num n=>exact⟨_,_,h⟩
 | file n m=>
  obtain⟨b,rfl,_⟩:=h;exact⟨_,_,rfl⟩
def Dk.D.kopen(d:D):Option (Nat×List Int×List (List UInt8))×Er×D:=
 match d.readMan with
 | (none,er,d1)=>(none,er,d1)
 | (some (g,ids),_,d1)=>match D.opensAcc ids d1 [] with
  | (bss,.ok,d2)=>(some (g,ids,bss),.ok,d2)
  | (_,er,d2)=>(none,er,d2)
set_option linter.unusedSectionVars false
variable[To.Lo]{Sh:Nat->Prop}{X:Tmp->Prop}{fn:FuncId}{Q:Exit->Act->World->(Nat->Prop)->Prop}{a:Act}{w:World}
theorem piece{c:Code}(Q0:World->Exit->Act->World->Prop)(hI:Iv zone Sh X a w)(hc:Zn.CodeP zone c)(hu:Zn.CodeU X c)(h:∀τ p,c.wp Tryz.prog (Q0 (tp w τ p)) a (tp w τ p))
 (hQ:∀e a' w' τ p τ' p',Q0 (tp w τ p) e a' (tp w' τ' p')->(e=.normal\/e=.ret)/\(Iv zone Sh X a' w'->w.heap.size<=w'.heap.size->Q e a' w' Sh)):wpT Tryz.prog fn c Q a w Sh:=
 wpT_lone (Q0:=fun e a' w'=>∃τ p,Q0 (tp w τ p) e a' w') pqk hI hc hu (fun τ p=>Code.wp_mono (fun _ _ _ q=>⟨τ,p,q⟩) (h τ p)) fun e a' w' τ' p'⟨τ,p,q⟩=>hQ e a' w' τ p τ' p' q
end
section
open Go.RowKit Go.Lib Go.Maps Dk Pl
end
section
open Go.RowKit Go.Lib Go.Maps Dk Pl
theorem b2T{l:List UInt8}{g:Nat}{ids:List Int}(h:readMan l=some (g,ids)):a4j ids:=by
 unfold readMan at h;split at h
 ·rename_i hg;injection h with h;injection h with _ h;unfold a1a at hg;simp only[Bool.and_eq_true] at hg;have hi:=hg.2.2.2;rw[h] at hi;unfold a0g at hi;simp only[Bool.and_eq_true,decide_eq_true_eq,List.all_eq_true] at hi;refine⟨hi.1,fun x hx=>?_⟩;have:=hi.2.1 x hx;unfold inRange at this;simpa using this
 ·cases h
end
section
open Go.RowKit Go.Lib Go.Maps Dk Pl
open Zn (tp Full)
open To (wpT wpT_lone I4 Iv a6a)
set_option linter.unusedSectionVars false
section
variable{F G:Nat->Prop}{w w':World}
theorem Chh.eq{τ τ':Nat->Question->Nat}{p p':Nat}(h:tp w' τ' p'=tp w τ p):Chh F w w':=by
 have h1:(tp w' τ' p').heap=(tp w τ p).heap:=congrArg World.heap h;have h2:(tp w' τ' p').os=(tp w τ p).os:=congrArg World.os h;have h3:(tp w' τ' p').output=(tp w τ p).output:=congrArg World.output h;replace h1:w'.heap=w.heap:=h1;exact⟨h2,h3,by rw[h1];exact Nat.le_refl _,fun b _ _=>by rw[h1]⟩
theorem Chh.box{n:Nat}{t:TypeId}{cs:Array Value}(c:Chh F w w')(h:o7 w n t cs)(hn:¬F n):o7 w' n t cs:=(c.block n h.lt hn).trans h
theorem Chh.disk{a:Nat}{d:D}(c:Chh G w w')(h:y9 w F a d)(hG:∀b,F b->¬G b):y9 w' F a d:=h.frame (fun b hb=>c.block b (h.low b hb) (hG b hb)) c.size
theorem Chh.row{B:Nat}{e:TypeId}{size:Nat}{v:Value}{n:Nat}{xs:List Value}(c:Chh F w w')(h:w.ownsRow B e size v n xs)(hn:∀b,v.ownBlock=some b->¬F b):w'.ownsRow B e size v n xs:=Dep.row h _ fun b hb=>c.block b (World.ownsRow.lt h b hb).2 (hn b hb)
end
structure Hd(F:Nat->Prop)(a:Nat)(d:D)(w:World)(T:Array Value)(w':World)(gen:Nat)(ids:List Int)(bss:List (List UInt8))(mb fb rb sx sb Cb:Nat)(ia:Option Addr)(ic:Nat)(vs:List Value)(d2:D):Prop where
 ko:d.kopen=(some (gen,ids,bss),.ok,d2)
 idsIn:a4j ids
 hs:T.size=118
 t4:T[4]?=some (.pointer (some ⟨mb,0,none⟩))
 t6:T[6]?=some (.pointer (some ⟨fb,0,none⟩))
 t11:T[11]?=some (.pointer (some ⟨sx,0,none⟩))
 disk:y9 w' F a d2
 chh:Chh F w w'
 hmb:o7 w' mb 125 #[.int .u64 gen,.slice ia ids.length ic]
 hids:OwnI w' w.heap.size (.slice ia ids.length ic) ids
 hfb:o7 w' fb 128 #[.slice (some ⟨rb,0,none⟩) ids.length ids.length]
 hrow:a7T w w' rb ids.length vs bss
 hbss:bss.length=ids.length
 hsx:o7 w' sx 32 #[.pointer (some ⟨sb,0,none⟩)]
 hsb:o7 w' sb 138 #[y8 a,.int .u64 gen,.slice ia ids.length ic,.slice (some ⟨Cb,0,none⟩) ids.length ids.length,.map none,.int .i64 0]
 hcb:w'.heap[Cb]?=some (.cells (madeCells #[.int .i64 0,.slice none 0 0] (ids.length*2)) 154)
 new:w.heap.size<=mb/\w.heap.size<=fb/\w.heap.size<=rb/\w.heap.size<=sx/\w.heap.size<=sb/\w.heap.size<=Cb
structure c5W(F:Nat->Prop)(a:Nat)(d:D)(w:World)(a':Act)(w':World)(y:Value):Prop where
 defers:a'.defers=[]
 t2:a'.tmps[2]?=some (.pointer none)
 t3:a'.tmps[3]?=some y
 ko:d.kopen.1=none/\d.kopen.2.1≠.ok
 disk:y9 w' F a d.kopen.2.2
 chh:Chh F w w'
 err:Held w' F (fun W=>ErrAt W y d.kopen.2.1)
set_option linter.unusedSectionVars false
variable[To.Lo]{Sh:Nat->Prop}{fn:FuncId}{Q:Exit->Act->World->(Nat->Prop)->Prop}{w:World}
theorem b4o{d:D}{gen:Nat}{ids:List Int}(h:d.readMan.1=some (gen,ids)):a4j ids:=by
 unfold D.readMan at h;obtain⟨⟨b,er,d1⟩,hr⟩:∃r,d.whole H9=r:=⟨_,rfl⟩;rw[hr] at h
 cases er with
 | ok=>
  dsimp only at h
  cases hm:Go.Proofs.YtgpbhjjajpbeeaaGreatDoor.readMan b with
  | none=>rw[hm] at h;cases h
  | some r=>
   rw[hm] at h;obtain⟨g,l⟩:=r;injection h with h;injection h with h1 h2;subst h1 h2
   exact b2T hm
 | num n=>cases h
 | file n m=>cases h
omit[To.Lo] in
theorem a1g{d:D}(h:d.readMan.1=none):d.kopen=(none,d.readMan.2.1,d.readMan.2.2):=by
 unfold D.kopen;obtain⟨⟨o,er,d1⟩,hr⟩:∃r,d.readMan=r:=⟨_,rfl⟩;rw[hr] at h⊢;dsimp only at h;subst h;rfl
omit[To.Lo] in
theorem a1U{d:D}{gen:Nat}{ids:List Int}(h:d.readMan.1=some (gen,ids))(he:(D.opensAcc ids d.readMan.2.2 []).2.1≠.ok):d.kopen=(none,(D.opensAcc ids d.readMan.2.2 []).2.1,(D.opensAcc ids d.readMan.2.2 []).2.2):=by
 unfold D.kopen;obtain⟨⟨o,er,d1⟩,hr⟩:∃r,d.readMan=r:=⟨_,rfl⟩;rw[hr] at h he⊢;dsimp only at h he⊢;subst h;dsimp only;obtain⟨⟨bss,e2,d2⟩,hr2⟩:∃r,D.opensAcc ids d1 []=r:=⟨_,rfl⟩;rw[hr2] at he⊢;dsimp only at he⊢
 cases e2 with
 | ok=>exact absurd rfl he
 | num n=>rfl
 | file n m=>rfl
omit[To.Lo] in
theorem a8K{d:D}{gen:Nat}{ids:List Int}(h:d.readMan.1=some (gen,ids))(he:(D.opensAcc ids d.readMan.2.2 []).2.1=.ok):d.kopen=(some (gen,ids,(D.opensAcc ids d.readMan.2.2 []).1),.ok,(D.opensAcc ids d.readMan.2.2 []).2.2):=by
 unfold D.kopen;obtain⟨⟨o,er,d1⟩,hr⟩:∃r,d.readMan=r:=⟨_,rfl⟩;rw[hr] at h he⊢;dsimp only at h he⊢;subst h;dsimp only;obtain⟨⟨bss,e2,d2⟩,hr2⟩:∃r,D.opensAcc ids d1 []=r:=⟨_,rfl⟩;rw[hr2] at he⊢;dsimp only at he⊢;subst he;rfl
theorem b7k{F:Nat->Prop}{a:Nat}{d:D}{T0:Array Value}(hI:Iv zone Sh Full ⟨T0,[]⟩ w)(hs:T0.size=118)(h0:T0[0]?=some (y8 a))(hD:y9 w F a d)(hds:∀x∈d.ids,(d.node x).data.length<=35184372088832)(hl:Held w F a0F)
 (herr:∀a' w' y,c5W F a d w a' w' y->Iv zone Sh Full a' w'->Q .ret a' w' Sh)
 (hok:∀T w' gen ids bss mb fb rb sx sb Cb ia ic vs d2,Hd F a d w T w' gen ids bss mb fb rb sx sb Cb ia ic vs d2->Iv zone Sh Full ⟨T,[]⟩ w'->wpT Tryz.prog fn (H8 6) Q ⟨T,[]⟩ w' Sh):wpT Tryz.prog fn (H8 0) Q ⟨T0,[]⟩ w Sh:=by
 have mem:∀{c:Code},c∈W9->Zn.CodeP zone c:=b0E;rw[b7d];refine I4 (piece (fun w=>QO0 a w) hI (mem (by simp[W9])) (Zn.codeU_full _) (fun τ p=>t0 T0 hs h0 _) ?_);rintro e ⟨T1,ds1⟩ w1 τ p τ' p' q;cases e<;>first|exact q.elim|skip
 obtain⟨q1,q2,q3,q4,q5,q6⟩:=q;dsimp only at q1 q2 q3 q4 q5;subst q1;refine⟨.inl rfl,fun hI1 _=>?_⟩;have c1:Chh (fun _=>False) w w1:=.eq q6;have hD1:=c1.disk hD fun _ _ h=>h;clear q6;show wpT _ _ _ _ _ _ _;rw[b7e];refine I4 (piece (fun w=>QO1 F a d w) hI1 (mem (by simp[W9])) (Zn.codeU_full _) (fun τ p=>t1 T1 q2 q3 q4 q5 F d _ hD1.to_tp hds) ?_);rintro e ⟨T2,ds2⟩ w2 τ p τ' p' q;cases e<;>first|exact q.elim|skip
 obtain⟨r1,r2,r3,r4,r5,mb,g,v,y,r6,r7,r8,r9,r10,r11,r12⟩:=q;dsimp only at r1 r2 r3 r4 r5 r6 r7;subst r1;refine⟨.inl rfl,fun hI2 _=>?_⟩;have hD2:y9 w2 F a d.readMan.2.2:=r10.of_tp;have c2:Chh F w w2:=(c1.less (fun _ _ h=>h.elim)).trans (.of r11);have hmb:o7 w2 mb 125 #[.int .u64 g,v]:=r9;have hmbn:w.heap.size<=mb:=Nat.le_trans c1.size r8;show wpT _ _ _ _ _ _ _;rw[b7f];rcases r12 with⟨e1,e2,e3⟩|⟨gen,ids,e1,e2,rfl,rfl,e5⟩
 ·have hE:Held w2 F (fun W=>ErrAt W y d.readMan.2.1):=e3;obtain⟨t,v',rfl⟩:=err_iface hE.get e2;refine I4 (piece (fun w=>c5V (.iface t v') w) hI2 (mem (by simp[W9])) (Zn.codeU_full _) (fun τ p=>t2e T2 r2 r7 _) ?_);rintro e a3 w3 τ p τ' p' q;cases e<;>first|exact q.elim|skip
  obtain⟨s1,s2,s3,s4⟩:=q;refine⟨.inr rfl,fun hI3 _=>herr a3 w3 _ ⟨s1,s2,s3,?_,?_,?_,?_⟩ hI3⟩
  ·rw[a1g e1];exact⟨rfl,e2⟩
  ·rw[a1g e1];exact(Chh.eq s4:Chh (fun _=>False) w2 w3).disk hD2 fun _ _ h=>h
  ·exact c2.trans (.eq s4)
  ·rw[a1g e1];exact hE.chh (.eq s4) hD2.low
 ·have hin:=b4o e1;have hvo:OwnI w2 w.heap.size v ids:=J8 e5 c1.size;refine I4 (piece (fun w=>QO2 a mb w) hI2 (mem (by simp[W9])) (Zn.codeU_full _) (fun τ p=>t2 T2 r2 r3 r6 r7 _) ?_);rintro e ⟨T3,ds3⟩ w3 τ p τ' p' q;cases e<;>first|exact q.elim|skip
  obtain⟨s1,s2,s3,s4,s5⟩:=q;dsimp only at s1 s2 s3 s4;subst s1;refine⟨.inl rfl,fun hI3 _=>?_⟩;have c3':Chh (fun _=>False) w2 w3:=.eq s5;have c3:Chh F w w3:=c2.trans (.eq s5);have hD3:=c3'.disk hD2 fun _ _ h=>h;have hmb3:=c3'.box hmb fun h=>h;have hvo3:OwnI w3 w.heap.size v ids:=c3'.row hvo fun _ _ h=>h;clear s5 hD2 hmb hvo;show wpT _ _ _ _ _ _ _;rw[b7g];refine I4 (piece (fun w=>QO3 a mb ids.length w) hI3 (mem (by simp[W9])) (Zn.codeU_full _) (fun τ p=>t3 T3 s2 s3 s4 gen v ids _ hmb3 ⟨_,hvo3⟩ hin.1) ?_);rintro e ⟨T4,ds4⟩ w4 τ p τ' p' q;cases e<;>first|exact q.elim|skip
  obtain⟨u1,u2,u3,u4,u5,fb,rb,u6,u7,u8,u9,u10⟩:=q;dsimp only at u1 u2 u3 u4 u6;subst u1;refine⟨.inl rfl,fun hI4 _=>?_⟩;have c4':Chh (fun _=>False) w3 w4:=.ext u5;have c4:Chh F w w4:=c3.trans (.ext u5);have hD4:=c4'.disk hD3 fun _ _ h=>h;have hmb4:=c4'.box hmb3 fun h=>h;have hvo4:OwnI w4 w.heap.size v ids:=c4'.row hvo3 fun _ _ h=>h;have hfb4:o7 w4 fb 128 #[.slice (some ⟨rb,0,none⟩) ids.length ids.length]:=u9;have hrb4:w4.heap[rb]?=some (.cells (List.replicate ids.length (Value.slice none 0 0)).toArray 25):=u10;have u7':w3.heap.size<=fb:=u7;have u8':w3.heap.size<=rb:=u8;have hlow:=hD.low;have hmbl:mb<w3.heap.size:=hmb3.lt;have hrF:¬F rb:=fun h=>by have:=hlow rb h;have:=c3.size;omega
  have hne:fb≠rb:=by
   rintro rfl;unfold o7 at hfb4;rw[hrb4] at hfb4;injection hfb4 with h;injection h with h1 h2 h3;revert h2;decide
  obtain⟨ia,ic,rfl⟩:=ownsRow_form hvo4;have hvl:∀b,(Value.slice ia ids.length ic).ownBlock=some b->w.heap.size<=b/\b<w3.heap.size:=fun b hb=>World.ownsRow.lt hvo3 b hb;have hH4:Held w4 (fun b=>F b\/b=rb) (fun W=>(o7 W mb 125 #[.int .u64 gen,.slice ia ids.length ic]/\Ints W (.slice ia ids.length ic) ids)/\o7 W fb 128 #[.slice (some ⟨rb,0,none⟩) ids.length ids.length]/\a0F W):=by
   refine Held.and (Held.and (Held.box hmb4 ?_) ?_) (Held.and (Held.box hfb4 ?_) ?_)
   ·rintro(h|h)
    ·have:=hlow mb h;omega
    ·omega
   ·refine(Held.of (Dep.row hvo4) fun b hb=>⟨(World.ownsRow.lt hvo4 b hb).2,?_⟩).mono fun W hW=>OwnI.ints hW;have:=hvl b hb;rintro(h|h)
    ·have:=hlow b h;omega
    ·omega
   ·rintro(h|h)
    ·have:=hlow fb h;have:=c3.size;omega
    ·exact hne h
   ·obtain⟨S,h1,h2⟩:=hl;refine⟨S,fun b hb=>⟨Nat.lt_of_lt_of_le (h1 b hb).1 c4.size,?_⟩,fun w'' hw=>h2 w'' fun b hb=>(hw b hb).trans (c4.block b (h1 b hb).1 (h1 b hb).2)⟩;rintro(h|h)
    ·exact(h1 b hb).2 h
    ·have:=(h1 b hb).1;have:=c3.size;omega
  have hsm:=D.readMan_same d;have hds4:∀x∈d.readMan.2.2.ids,(d.readMan.2.2.node x).data.length<=35184372088832:=fun x hx=>by rw[hsm.node];rw[hsm.ids] at hx;exact hds x hx
  clear u5 u7 u8 u9 u10 hmb3 hvo3 hD3;show wpT _ _ _ _ _ _ _;rw[b7h];refine I4 (piece (fun w=>QO4 F a mb fb rb d.readMan.2.2 ids w) hI4 (mem (by simp[W9])) (Zn.codeU_full _) (fun τ p=>t4 T4 u2 u3 u4 u6 F gen ia ic d.readMan.2.2 ids _ hD4.to_tp hds4 hin hH4 hrb4 hrF) ?_);rintro e ⟨T5,ds5⟩ w5 τ p τ' p' q;have hF':∀b,b<w.heap.size->(F b\/b=rb)->F b:=fun b hb h=>h.elim id fun h=>by have:=c3.size;omega
  have c45:∀{τ τ' p p'},Chg (fun b=>F b\/b=rb) (fun b=>F b\/b=rb) (tp w4 τ p) (tp w5 τ' p')->Chh F w w5:=fun h=>by
   have h1:Chh (fun b=>F b\/b=rb) w4 w5:=.of h;exact⟨h1.os.trans c4.os,h1.output.trans c4.output,Nat.le_trans c4.size h1.size,fun b hb hF=>(h1.block b (Nat.lt_of_lt_of_le hb c4.size) fun h=>hF (hF' b hb h)).trans (c4.block b hb hF)⟩
  cases e<;>first|exact q.elim|skip
  ·obtain⟨v1,v2,v3,v4,v5,v6,v7,v8,vs,v9,v10⟩:=q;dsimp only at v1 v2 v3 v4 v5;subst v1;have hD5:y9 w5 F a (D.opensAcc ids d.readMan.2.2 []).2.2:=v7.of_tp;have c5:Chh F w w5:=c45 v8;have c45':Chh (fun b=>F b\/b=rb) w4 w5:=.of v8;have hn1:∀b,w.heap.size<=b->¬F b:=fun b hb h=>by have:=hlow b h;omega
   have hmb5:=c45'.box hmb4 fun h=>h.elim (hn1 mb hmbn) fun h=>by omega
   have hfb5:=c45'.box hfb4 fun h=>h.elim (hn1 fb (Nat.le_trans c3.size u7')) hne;have hvo5:OwnI w5 w.heap.size (.slice ia ids.length ic) ids:=c45'.row hvo4 fun b hb=>by
    have:=hvl b hb;exact fun h=>h.elim (hn1 b this.1) fun h=>by omega
   have hrow5:a7T w4 w5 rb ids.length vs (D.opensAcc ids d.readMan.2.2 []).1:=⟨v9.len,v9.le,v9.row,v9.at_⟩;have hsz45:w4.heap.size<=w5.heap.size:=c45'.size;clear v8 v9 v7;refine⟨.inl rfl,fun hI5 _=>?_⟩;show wpT _ _ _ _ _ _ _;rw[b7i];refine I4 (piece (fun w=>QO5 a mb fb ids.length gen (.slice ia ids.length ic) w) hI5 (mem (by simp[W9])) (Zn.codeU_full _) (fun τ p=>t5 T5 v2 v3 v4 v5 gen ia ids.length ic _ hmb5 hin.1) ?_);rintro e ⟨T6,ds6⟩ w6 τ p τ' p' q;cases e<;>first|exact q.elim|skip
   obtain⟨x1,x2,x3,x4,x5,sx,sb,Cb,x6,x7,x8,x9,-,-,-,x10,x11,x12⟩:=q;dsimp only at x1 x2 x3 x4 x6;subst x1;replace x7:w5.heap.size<=sx:=x7;replace x8:w5.heap.size<=sb:=x8;replace x9:w5.heap.size<=Cb:=x9;have c56:Chh (fun _=>False) w5 w6:=.ext x5;refine⟨.inl rfl,fun hI6 _=>hok T6 w6 gen ids (D.opensAcc ids d.readMan.2.2 []).1 mb fb rb sx sb Cb ia ic vs (D.opensAcc ids d.readMan.2.2 []).2.2 ?_ hI6⟩;exact{
    ko:=a8K e1 v6
    idsIn:=hin
    hs:=x2
    t4:=x3
    t6:=x4
    t11:=x6
    disk:=c56.disk hD5 fun _ _ h=>h
    chh:=c5.trans (.ext x5)
    hmb:=c56.box hmb5 fun h=>h
    hids:=c56.row hvo5 fun _ _ h=>h
    hfb:=c56.box hfb5 fun h=>h
    hrow:=by
     have k:a7T w w5 rb ids.length vs (D.opensAcc ids d.readMan.2.2 []).1:=⟨hrow5.len,hrow5.le,hrow5.row,fun j u b hu hb=>⟨J8 (hrow5.at_ j u b hu hb).1 c4.size,(hrow5.at_ j u b hu hb).2⟩⟩;exact k.keep (c56.block rb (lt_of_block hrow5.row) fun h=>h) fun b _ hb _=>c56.block b hb fun h=>h
    hbss:=v10
    hsx:=x10
    hsb:=x11
    hcb:=x12
    new:=by have:=c3.size;have:=c5.size;exact⟨hmbn,by omega,by omega,by omega,by omega,by omega⟩}
  ·obtain⟨v1,y,v2,v3,v4,v5,v6,v7⟩:=q;refine⟨.inr rfl,fun hI5 _=>herr ⟨T5,ds5⟩ w5 y ⟨v1,v2,v3,?_,?_,c45 v6,?_⟩ hI5⟩
   ·rw[a1U e1 v4];exact⟨rfl,v4⟩
   ·rw[a1U e1 v4];exact v5.of_tp
   ·rw[a1U e1 v4];exact v7
end
section
open Dk Pl
def Q9(l:Fl):List Int->List (List UInt8)->Option (List (List UInt8))×Nm
 | [],acc=>(some acc,[])
 | id::ids,acc=>match D9 l (D7 G8 id.toNat) with
  | none=>(none,D7 G8 id.toNat)
  | some b=>Q9 l ids (acc++[b])
theorem a5Y{l:Fl}{id:Int}{ids:List Int}{acc:List (List UInt8)}{b:List UInt8}(h:D9 l (D7 G8 id.toNat)=some b):Q9 l (id::ids) acc=Q9 l ids (acc++[b]):=by
 show(match D9 l (D7 G8 id.toNat) with|none=>(none,D7 G8 id.toNat)|some b=>Q9 l ids (acc++[b]))=_;rw[h]
theorem a5Z{l:Fl}{id:Int}{ids:List Int}{acc:List (List UInt8)}(h:D9 l (D7 G8 id.toNat)=none):Q9 l (id::ids) acc=(none,D7 G8 id.toNat):=by
 show(match D9 l (D7 G8 id.toNat) with|none=>(none,D7 G8 id.toNat)|some b=>Q9 l ids (acc++[b]))=_;rw[h]
def P9(l:Fl):Option (Nat×List Int×List (List UInt8))×Int×Nm:=
 match D9 l H9 with
 | none=>(none,5,[])
 | some m=>match readMan m with
  | none=>(none,6,[])
  | some (g,ids)=>match Q9 l ids [] with
   | (some bss,_)=>(some (g,ids,bss),0,[])
   | (none,n)=>(none,7,n)
section
variable{l:Fl}{m:List UInt8}{g:Nat}{ids:List Int}{bss:List (List UInt8)}{n:Nm}
theorem a3u(h:D9 l H9=none):P9 l=(none,5,[]):=by unfold P9;rw[h]
theorem a4i(h:D9 l H9=some m)(hm:readMan m=none):P9 l=(none,6,[]):=by unfold P9;rw[h];dsimp only;rw[hm]
theorem a5l(h:D9 l H9=some m)(hm:readMan m=some (g,ids))(hs:Q9 l ids []=(some bss,n)):P9 l=(some (g,ids,bss),0,[]):=by unfold P9;rw[h];dsimp only;rw[hm];dsimp only;rw[hs]
theorem a3v(h:D9 l H9=some m)(hm:readMan m=some (g,ids))(hs:Q9 l ids []=(none,n)):P9 l=(none,7,n):=by unfold P9;rw[h];dsimp only;rw[hm];dsimp only;rw[hs]
end
theorem b2c(l:Fl)(h:(P9 l).1≠none):(P9 l).2.2=[]:=by
 cases hm:D9 l H9 with
 | none=>rw[a3u hm]
 | some m=>
  cases hr:readMan m with
  | none=>rw[a4i hm hr]
  | some r=>
   obtain⟨g,ids⟩:=r
   cases hs:Q9 l ids [] with
   | mk o n=>
    cases o with
    | some bss=>rw[a5l hm hr hs]
    | none=>rw[a3v hm hr hs] at h;exact absurd rfl h
theorem a90{d:D}(h:d.Calm):∀(ids:List Int)(acc:List (List UInt8)),(∀bss n,Q9 d.files ids acc=(some bss,n)->D.opensAcc ids d acc=(bss,.ok,d))/\(∀n,Q9 d.files ids acc=(none,n)->∃acc',D.opensAcc ids d acc=(acc',.file 7 n,d)):=by
 intro ids
 induction ids with
 | nil=>
  intro acc;refine⟨fun bss n e=>?_,fun n e=>?_⟩
  ·simp only[Q9,Prod.mk.injEq,Option.some.injEq] at e;rw[<-e.1];rfl
  ·simp[Q9] at e
 | cons id ids ih=>
  intro acc;have hw:=h.whole (D7 G8 id.toNat)
  cases hf:d.file (D7 G8 id.toNat) with
  | none=>
   rw[hf] at hw;dsimp only at hw;have hl:D9 d.files (D7 G8 id.toNat)=none:=by rw[a4V,hf]
   rw[a5Z hl];refine⟨fun bss n e=>by simp at e,fun n e=>?_⟩;simp only[Prod.mk.injEq,true_and] at e;subst e
   exact⟨acc,by rw[a1K hw (by simp)];simp[Er.code]⟩
  | some b=>
   rw[hf] at hw;dsimp only at hw;have hl:D9 d.files (D7 G8 id.toNat)=some b:=by rw[a4V,hf]
   rw[a5Y hl,a3U hw];exact ih (acc++[b])
theorem b5c{d:D}(h:d.Calm):d.kopen.2.2=d/\d.kopen.1=(P9 d.files).1/\d.kopen.2.1.code=(P9 d.files).2.1/\(d.kopen.2.1.code=7->d.kopen.2.1.name=(P9 d.files).2.2)/\(d.kopen.1=none<->d.kopen.2.1.code≠0):=by
 have hr:=h.readMan;have hl:=a4V d H9
 cases hf:d.file H9 with
 | none=>
  rw[hf] at hr hl;dsimp only at hr;have e:d.kopen=(none,.num 5,d):=by rw[a1g (by rw[hr]),hr]
  rw[e,a3u hl]
  exact⟨rfl,rfl,rfl,fun h=>by simp[Er.code] at h,by simp[Er.code]⟩
 | some m=>
  rw[hf] at hr hl;dsimp only at hr
  cases hm:readMan m with
  | none=>
   rw[hm] at hr;dsimp only at hr;have e:d.kopen=(none,.num 6,d):=by rw[a1g (by rw[hr]),hr]
   rw[e,a4i hl hm]
   exact⟨rfl,rfl,rfl,fun h=>by simp[Er.code] at h,by simp[Er.code]⟩
  | some r=>
   obtain⟨g,ids⟩:=r;rw[hm] at hr;dsimp only at hr;obtain⟨h1,h2⟩:=a90 h ids [];have e1:d.readMan.1=some (g,ids):=by rw[hr]
   have e2:d.readMan.2.2=d:=by rw[hr]
   cases hs:Q9 d.files ids [] with
   | mk o n=>
    cases o with
    | some bss=>
     have e3:=h1 bss n hs;have e:d.kopen=(some (g,ids,bss),.ok,d):=by rw[a8K e1 (by rw[e2,e3]),e2,e3]
     rw[e,a5l hl hm hs]
     exact⟨rfl,rfl,rfl,fun h=>by simp[Er.code] at h,by simp[Er.code]⟩
    | none=>
     obtain⟨acc',e3⟩:=h2 n hs;have e:d.kopen=(none,.file 7 n,d):=by rw[a1U e1 (by rw[e2,e3];simp),e2,e3]
     rw[e,a3v hl hm hs];exact⟨rfl,rfl,rfl,fun _=>rfl,by simp[Er.code]⟩
end
section
open Go.RowKit Go.Lib Pl
def b8g(r:Option (Nat×List Int))(w:World)(e:Ending)(w':World):Prop:=
 ∃g v b,e=.returned (.tuple #[.int .u64 g,v,.bool b])/\Ext w w'/\
  ((r=none/\g=0/\v=.slice none 0 0/\b=false)\/(∃gen ids,r=some (gen,ids)/\g=(gen:Int)/\b=true/\OwnI w' w.heap.size v ids))
theorem a9n(v:Value)(l:List UInt8)(w:World)(h:Bytes w v l):
 Calls Tryz.prog 32 #[v] w (b8g (readMan l) w):=by
 obtain⟨i0,hi,hz0,hz1,hz2⟩:=info_parts a8T;obtain⟨a,cap,rfl,h1,h2,h3⟩:=id h;clear h3;by_cases c0:l.length<14
 ·have hd:readMan l=none:=Y5 (a2z (by omega));clear h;go_enter Tryz.func32,Tryz.ntmps32
  go_wp2;go_ret3
  exact⟨0,_,_,rfl,Ext.refl w,Or.inl ⟨hd,rfl,rfl,rfl⟩⟩
 obtain⟨ad,rfl⟩:∃ad,a=some ad:=by
  cases a with
  | none=>have:=h2.2 rfl;omega
  | some ad=>exact⟨ad,rfl⟩
 have HB:=Lib.hid h;clear h;have h14:14<=l.length:=by omega
 have hcn:=cnt_lt l;have hwn:IntKind.i64.wrap (cnt l:Int)=(cnt l:Int):=IntWalk.i64_in _ (by omega);have hsl:∀W:World,Ext w W->∀i j,0<i->i<=j->j<=l.length->i<cap->Bytes W (.slice (some ⟨ad.block,ad.off+i,none⟩) (j - i) (cap - i)) ((l.take j).drop i):=by
  intro W hW i j h0 hij hj hc;have:=(HB.out.ext hW).sliced i j hij hj;rw[if_neg (by omega)] at this;have e:(some ad).map (·.add i)=some ⟨ad.block,ad.off+i,none⟩:=by
   show some (ad.add i)=_;unfold Addr.add;rw[if_neg (by omega)]
  rw[e] at this;exact this
 have HS:=Lib.hid hsl;clear hsl;have e12:num ((l.take 14).drop 12)=cnt l:=by unfold cnt;rw[List.drop_take]
 have hcap:14<=cap:=by omega
 have c1:=V8 _ ((l.take 14).drop 12) w (HS.out _ (Ext.refl w) 12 14 (by omega) (by omega) (by omega) (by omega)) (by simp;omega);rw[e12] at c1;have HC1:=Lib.hid c1;clear c1 e12;go_enter Tryz.func32,Tryz.ntmps32
 go_wp2_with fail
 refine HC1.out.mono ?_;rintro e W ⟨rfl,hw⟩;subst hw;have c2:=a2j _ (l.drop 4) w (by
  have:=HS.out _ (Ext.refl w) 4 l.length (by omega) (by omega) (Nat.le_refl _) (by omega);rw[List.take_length] at this;exact this)
 have HC2:=Lib.hid c2;clear c2;have hw4:IntKind.i64.wrap (4*(cnt l:Int))=4*(cnt l:Int):=IntWalk.i64_in _ (by omega);have hw14:IntKind.i64.wrap (14+4*(cnt l:Int))=14+4*(cnt l:Int):=IntWalk.i64_in _ (by omega);go_wp2_with fail
 refine HC2.out.mono ?_;rintro e W ⟨rfl,hw⟩;subst hw;by_cases c3:l.length=14+4*cnt l
 case neg=>
  have hd:readMan l=none:=Y5 (a2z (by omega));have hne:((l.length:Int) != 14+4*(cnt l:Int))=true:=by rw[bne,beq_eq_false_iff_ne.2 (by omega)];rfl
  go_wp2;go_ret3
  exact⟨0,_,_,rfl,Ext.refl w,Or.inl ⟨hd,rfl,rfl,rfl⟩⟩
 have heq:((l.length:Int) != 14+4*(cnt l:Int))=false:=by rw[bne,beq_iff_eq.2 (by omega)];rfl
 have HL:=Lib.hid c3;clear c3;have c4:=V8 _ (l.take 4) w (by
  have:=(HB.out).sliced 0 4 (by omega) (by omega);rw[if_neg (by omega)] at this;exact this) (by simp;omega)
 have HC4:=Lib.hid c4;clear c4;have hm1:num (l.take 4)<4294967296:=O3 l 4;go_wp2_with fail
 refine HC4.out.mono ?_;rintro e W ⟨rfl,hw⟩;subst hw;have hwc:IntKind.u64.wrap (crc (l.drop 4):Int)=(crc (l.drop 4):Int):=by
  have:=a4e (l.drop 4);rw[IntKind.wrap_u64];omega
 by_cases hcr:crc (l.drop 4)=num (l.take 4)
 case neg=>
  have hcr':((num (l.take 4):Int) != (crc (l.drop 4):Int))=true:=by rw[bne,beq_eq_false_iff_ne.2 (by omega)];rfl
  have hd:readMan l=none:=Y5 (a7y hcr);go_wp2;go_ret3
  exact⟨0,_,_,rfl,Ext.refl w,Or.inl ⟨hd,rfl,rfl,rfl⟩⟩
 have hcr':((num (l.take 4):Int) != (crc (l.drop 4):Int))=false:=by rw[bne,beq_iff_eq.2 (by omega)];rfl
 have HCR:=Lib.hid hcr;clear hcr;go_wp2;go_loopw [7,8] (fun u i wr=>∃k:Nat,k<=cnt l/\i=.int .i64 k/\OwnI wr w.heap.size u (Y4 l k)/\Ext w wr) (fun _ i _=>cnt l - (intOf i).toNat)
 case atStart=>exact⟨0,Nat.zero_le _,rfl,⟨rfl,Or.inl ⟨rfl,rfl⟩⟩,Ext.refl w⟩
 case round=>
  obtain⟨k,hk,rfl,hO,hE⟩:=hrel;by_cases hlt:k<cnt l
  ·have hl:=HL.out;have e4:num ((l.take (18+4*k)).drop (14+4*k))=a9k l k:=by unfold a9k;rw[List.drop_take];congr 2;omega
   have c5:=V8 (.slice (some (ad.add (14+4*k))) (18+4*k - (14+4*k)) (cap - (14+4*k))) ((l.take (18+4*k)).drop (14+4*k)) wr (by
    have:=(HB.out.ext hE).sliced (14+4*k) (18+4*k) (by omega) (by omega);rw[if_neg (by omega)] at this;exact this) (by simp;omega)
   rw[e4] at c5;have HC5:=Lib.hid c5;have HO:=Lib.hid hO;have HE:=Lib.hid hE;have hix:=b6e l k;have hwx:IntKind.i64.wrap (a9k l k:Int)=(a9k l k:Int):=IntWalk.i64_in _ (by omega);have hsn:(Y4 l (k+1)).map (Value.int .i64)=(Y4 l k).map (Value.int .i64)++[Value.int .i64 (a9k l k)]:=by rw[a9l,List.map_append];rfl
   have HSN:=Lib.hid hsn;have hk4:IntKind.i64.wrap (4*(k:Int))=4*(k:Int):=IntWalk.i64_in _ (by omega);have hk14:IntKind.i64.wrap (14+4*(k:Int))=14+4*(k:Int):=IntWalk.i64_in _ (by omega);have hk18:IntKind.i64.wrap (18+4*(k:Int))=18+4*(k:Int):=IntWalk.i64_in _ (by omega);have hlc:18+4*k<=cap:=by omega
   have hcl:cnt l<65536:=hcn;clear c5 hO hE e4 hsn hl heq hcr';have hsz:=HE.out.size;obtain⟨ua,uc,rfl⟩:=ownsRow_form HO.out;go_wp2_with fail
   refine HC5.out.mono ?_;rintro e W5 ⟨rfl,hw5⟩;subst hw5;go_wp2_with (at_builtin;go_must (refine D6 rfl _ _ 69 rfl w.heap.size 3 i0 (.int .i64 0) 1 8 Tryz.underlying69 hi hz0 hz1 hz2 rfl (by omega) (.slice ua (Y4 l k).length uc) (Y4 l k).length _ rfl (HO.out.alloc (.cells #[.int .i64 (a9k l k)] 3)) (.slice (some ⟨wr.heap.size,0,none⟩) 1 1) 1 [.int .i64 (a9k l k)] rfl ⟨_,_,rfl,by omega,⟨by omega,fun h=>by cases h⟩,fun _=>⟨_,rfl,World.news_of_block (cs:=#[.int .i64 (a9k l k)]) (t:=3) (fr:=(0,0)) (heap_alloc_new wr _)⟩⟩ rfl (by simp[Value.oneCell']) (by rw[a1N];unfold maxLen;omega) (by rw[a1N];omega) (by simp;omega) ?_);intro b6 c6 w6 hown6 hgrow6 hat6;clear hat6)
   have hO6:OwnI w6 w.heap.size (.slice b6 ((Y4 l k).length+1) c6) (Y4 l (k+1)):=by
    unfold OwnI;rw[HSN.out,show(Y4 l (k+1)).length=(Y4 l k).length+1 by rw[a1N,a1N]];exact hown6
   have hE6:Ext w w6:=Below.grown (HE.out.new _) hgrow6 (by simp;omega) (fun r hr=>(HO.out.lt r hr).1);go_roundw
   case rel=>exact⟨k+1,by omega,by go_num,hO6,hE6⟩
   case measure=>simp[intOf];omega
  ·obtain rfl:k=cnt l:=by omega
   have hwf:∀n∈Y4 l (cnt l),(Lit.int .i64 n).wf=true:=fun n hn=>b3p (b3o l _ n hn);have c7:=a5X u7 (Y4 l (cnt l)) wr hO.ints;have HC7:=Lib.hid c7;have HO:=Lib.hid hO;have HE:=Lib.hid hE;clear c7 hO hE hwf;go_wp2_with fail
   refine HC7.out.mono ?_;rintro e W7 ⟨rfl,q,hq⟩;have hE7:Ext wr W7:=by rw[hq];exact Ext.drewN _ _
   clear hq;have hO7:OwnI W7 w.heap.size u7 (Y4 l (cnt l)):=ownsRow_below HO.out hE7;have hX7:Ext w W7:=Ext.trans HE.out hE7;have HO7:=Lib.hid hO7;have HX7:=Lib.hid hX7
   cases hok:a0g (Y4 l (cnt l)) with
   | false=>
    have hd:readMan l=none:=Y5 (a7z hok);clear hE7 hO7 hX7;go_wp2;go_ret3
    exact⟨0,_,_,rfl,HX7.out,Or.inl ⟨hd,rfl,rfl,rfl⟩⟩
   | true=>
    have hd:readMan l=some (num ((l.drop 4).take 8),Y4 l (cnt l)):=a5V h14 HL.out HCR.out hok;have c8:=V8 _ ((l.take 12).drop 4) W7 (HS.out _ hX7 4 12 (by omega) (by omega) (by omega) (by omega)) (by simp;omega);rw[show num ((l.take 12).drop 4)=num ((l.drop 4).take 8) by rw[List.drop_take]] at c8;have HC8:=Lib.hid c8;have HD:=Lib.hid hd;clear hE7 hO7 hX7 c8 hd;go_wp2_with fail
    refine HC8.out.mono ?_;rintro e W8 ⟨rfl,hw8⟩;subst hw8;go_wp2;go_ret3
    exact⟨_,_,_,rfl,HX7.out,Or.inr ⟨_,_,HD.out,rfl,rfl,HO7.out⟩⟩
end
end Go.Proofs.YtgpbhjjajpbeeaaGreatDoor
