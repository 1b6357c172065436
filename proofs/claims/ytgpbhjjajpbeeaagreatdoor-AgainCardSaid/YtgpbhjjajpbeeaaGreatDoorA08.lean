/- A part of what the last file proves. -/
import Derived.Test.YtgpbhjjajpbeeaaGreatDoorA07
import Derived.Conc.WgGenN
set_option linter.all false
set_option maxHeartbeats 1600000
namespace Go.Mc
open Go.Conc
variable{B b k s:Nat}{g:iY}
section
open Go.ConcR (KK wgBlock WgAt stA smA rd wr mk DC0 Bk)
open Go.ConcN (WgLive ShN)
structure Pz where
 P:Program
 ty:TypeId
 Wg:Nat
 Al:Nat
 gw:TypeId
 Cb:Nat
 JQ:TypeId
 c:Nat
 n:Nat
 L0:Nat
 oZ:Nat->Prop
 zD:Nat->Prop
 ni:Nat->Nat->(Nat->Prop)->World->Prop
 e0:Nat
 v0:Value
variable(Z:Pz)
def jW(i k:Nat):Prop:=k=2*i\/k=2*i+1
def oO(w:aB):Prop:=∃v:Int,w.heap[Z.Al]?=some (.cells #[.int .i64 v] Z.gw)
def nX(w:aB):Prop:=∃a:dU,w.heap[Z.Cb]?=some (.cells a Z.JQ)/\a.size=2*Z.n
structure lZ:Prop where
 c:0<Z.c
 WA:Z.Wg≠Z.Al
 WC:Z.Wg≠Z.Cb
 AC:Z.Al≠Z.Cb
 W0:Z.Wg<Z.L0
 A0:Z.Al<Z.L0
 C0:Z.Cb<Z.L0
 jQ:∀b,Z.oZ b->b<Z.L0/\b≠Z.Wg/\b≠Z.Al/\b≠Z.Cb/\¬Z.zD b
 sh:∀b,Z.zD b->b<Z.L0/\b≠Z.Wg/\b≠Z.Al/\b≠Z.Cb
 e0:Z.oZ Z.e0
 res:∀i bx O w w',w.heap.size<=w'.heap.size->w'.heap[bx]?=w.heap[bx]?->(∀b,O b->w'.heap[b]?=w.heap[b]?)->(∀k,jW i k->w'.cell? ⟨Z.Cb,k,none⟩=w.cell? ⟨Z.Cb,k,none⟩)->Z.ni i bx O w->Z.ni i bx O w'
structure RW(i bx:Nat)(O:Nat->Prop)(w w₁:World):Prop where
 size:w.heap.size<=w₁
 jQ:∀b,Z.oZ b->w₁.heap[b]?=w.heap[b]?
 box:w₁.heap[bx]?=w.heap[bx]?
 own:∀b,O b->w₁.heap[b]?=w.heap[b]?
 live:WgLive Z.ty Z.Wg w->WgLive Z.ty Z.Wg w₁
 al:oO Z w->oO Z w₁
 cb:nX Z w->nX Z w₁
 cell:∀k,jW i k->w₁.cell? ⟨Z.Cb,k,none⟩=w.cell? ⟨Z.Cb,k,none⟩
theorem RW.refl(i bx:Nat)(O:tyP)(w:aB):RW Z i bx O w w:=⟨ak _,λ_ _=>rfl,rfl,λ_ _=>rfl,id,id,id,λ_ _=>rfl⟩
theorem RW.trans{i bx:Nat}{O:tyP}{a b d:aB}(h:RW Z i bx O a b)(k:RW Z i bx O b d):RW Z i bx O a d:=
 ⟨ay h.size k.size,λx y=>(k.jQ x y).trans<|h.jQ x y,k.box.trans h.box,λx y=>(k.own x y).trans<|h.own x y,k.live∘h.live,k.al∘h.al,k.cb∘h.cb,λx y=>(k.cell x y).trans<|h.cell x y⟩
def EvW(i bx:Nat)(O:tyP)(B:Nat)(e:Event):Prop:=
 match e.loc with
 | .cell a=>a.block<B/\((a.block=Z.Al/\e.sync=true)\/(e.sync=false/\(O a.block\/(a.block=Z.Cb/\a.spot=none/\jW i a.off)\/((Z.oZ a.block\/a.block=bx)/\e.write=false))))
 | .obj r=>r<B/\e.sync=false/\(O r\/((Z.oZ r\/r=bx)/\e.write=false))
 | .mark m=>Bi.iG m
 | _=>False
structure DW(i bx:Nat)(O O':Nat->Prop)(w w':World)(es:Array Event):Prop where
 size:w.heap.size<=w'
 tape:w'.tape=w.tape
 os:w'.os=w.os
 output:w'.output=w.output
 old:∀b,b<w.heap.size->¬O b->b≠Z.Al->b≠Z.Cb->w'.heap[b]?=w.heap[b]?
 al:oO Z w->oO Z w'
 cb:nX Z w->nX Z w'
 cell:∀k,¬jW i k->w'.cell? ⟨Z.Cb,k,none⟩=w.cell? ⟨Z.Cb,k,none⟩
 more:∀b,O b->O' b
 new:∀b,O' b->O b\/w.heap.size<=b
 Tn:∀b,O' b->b<w'.heap.size
 ev:∀e∈es,EvW Z i bx O' w' e
section
variable[Go.ConcR.Payload]
abbrev PG:Nat->Loc->Prop:=λ_ _=>False
def Yv(i bx:Nat)(O:tyP)(g:iY)(w:aB):Prop:=ConcN.AtR0 Z.P Z.ty Z.Wg Z.e0 Z.n 0 1 Z.v0 g w/\Z.ni i bx O w
def Works(i bx:Nat)(g:iY)(w:aB):Prop:=∃T,Wk Z.P false (RW Z i bx) (DW Z i bx) (Yv Z i bx) T (λ_=>False) g w
def DX:Nat->Tr
 | 0=>.leaf
 | m+1=>.node λ_=>DX m
theorem ja(m:Nat):sQ (DX m) (DX (m+1)):=.mk (λ_=>DX m) default
inductive WS(i bx:Nat)(O:Nat->Prop):Nat->Tr->Nat->Goroutine->World->Prop
 | work (T:Tr) (g:Goroutine) (w:World) (h:Wk Z.P false (RW Z i bx) (DW Z i bx) (Yv Z i bx) T O g w):WS i bx O 7 T 0 g w
 | rest (s m d:Nat) (g:Goroutine) (w:World) (hs:s<=6) (h:ConcN.WSit Z.P Z.ty Z.Wg Z.e0 Z.n PG PG 0 1 Z.v0 s m d g w) (hr:Z.ni i bx O w):WS i bx O s (DX m) d g w
structure R0(x:Option Nat)(w w₁:World):Prop where
 size:w.heap.size<=w₁
 jQ:∀b,Z.oZ b->w₁.heap[b]?=w.heap[b]?
 cur:∀b,x=some b->w₁.heap[b]?=w.heap[b]?
 live:WgLive Z.ty Z.Wg w->WgLive Z.ty Z.Wg w₁
 AZ:∀b,Z.zD b->w₁.heap[b]?=w.heap[b]?
theorem R0.refl(x:Option Nat)(w:aB):R0 Z x w w:=⟨ak _,λ_ _=>rfl,λ_ _=>rfl,id,λ_ _=>rfl⟩
abbrev iU:=@R0.refl
theorem R0.trans{x:Option Nat}{a b d:aB}(h:R0 Z x a b)(k:R0 Z x b d):R0 Z x a d:=
 ⟨ay h.size k.size,λx y=>(k.jQ x y).trans<|h.jQ x y,λx y=>(k.cur x y).trans<|h.cur x y,k.live∘h.live,λx y=>(k.AZ x y).trans<|h.AZ x y⟩
def Ev0(x:Option Nat)(B:Nat)(e:Event):Prop:=
 match e.loc with
 | .cell a=>a.block<B/\e.sync=false/\((Z.oZ a.block/\e.write=false)\/x=some a.block)
 | .obj r=>r<B/\e.sync=false/\Z.oZ r/\e.write=false
 | .mark m=>Bi.iG m\/∃a,(m=.read a\/m=.write a)/\a.block=Z.Wg
 | _=>False
structure D0(x x':Option Nat)(w w':World)(es:Array Event):Prop where
 size:w.heap.size<=w'
 tape:w'.tape=w.tape
 os:w'.os=w.os
 output:w'.output=w.output
 old:∀b,b<w.heap.size->x≠some b->w'.heap[b]?=w.heap[b]?
 cur:x'=x\/x'=none\/∃b,x'=some b/\w.heap.size<=b/\b<w'.heap.size
 ev:∀e∈es,Ev0 Z x' w' e
abbrev W0(Stop:Option Nat->Goroutine->World->Prop):Tr->Option Nat->Goroutine->World->Prop:=Wk Z.P true (R0 Z) (D0 Z) Stop
section
variable(Cont:Goroutine->World->Prop)
def AtAcq(b:Option Nat)(g:iY)(w:aB):Prop:=
 g.status=.running/\∃a,stepG Z.P true g w=.go a w #[mk (.acquire (stA Z.Wg))]/\a.status=.running/\Cont a w
def AtKe(x:Option Nat)(g:iY)(w:aB):Prop:=
 g.status=.running/\∃a,stepG Z.P true g w=.go a w #[mk .enable]/\∃T,W0 Z (AtAcq Z Cont) T x a w
def AtW4(x:Option Nat)(g:iY)(w:aB):Prop:=
 g.status=.running/\(WgAt Z.ty Z.Wg w 0 0->∃a,stepG Z.P true g w=.go a w #[rd (stA Z.Wg)]/\∃T,W0 Z (AtKe Z Cont) T x a w)
def AtW3(x:Option Nat)(g:iY)(w:aB):Prop:=
 g.status=.running/\g.offers=none/\((∃b,WgAt Z.ty Z.Wg w b 0)->stepG Z.P true g w=.go {g with status:=.blocked} w #[])/\
  (WgAt Z.ty Z.Wg w 0 1->∃a,stepG Z.P true g w=.go a (w.setCell (smA Z.Wg) (.int .u32 0)) (semEvents (smA Z.Wg))/\∃T,W0 Z (AtW4 Z Cont) T x a (w.setCell (smA Z.Wg) (.int .u32 0)))
variable(AnchW:Goroutine->World->Prop)
def AtW2(b:Nat)(x:Option Nat)(g:iY)(w:aB):Prop:=
 g.status=.running/\∀v:Nat,v<2147483648->WgAt Z.ty Z.Wg w (v*KK) 0->
  (v=b->∃a,stepG Z.P true g w=.go a (w.setCell (stA Z.Wg) (.int .u64 (v*KK+1))) #[rd (stA Z.Wg),wr (stA Z.Wg)]/\∃T,W0 Z (AtW3 Z Cont) T x a (w.setCell (stA Z.Wg) (.int .u64 (v*KK+1))))/\
  (v≠b->∃a,stepG Z.P true g w=.go a w #[rd (stA Z.Wg)]/\∃T,W0 Z (λ_=>AnchW) T x a w)
def AtW1(x:Option Nat)(g:iY)(w:aB):Prop:=
 g.status=.running/\∀v:Nat,v<2147483648->WgAt Z.ty Z.Wg w (v*KK) 0->∃a,stepG Z.P true g w=.go a w #[rd (stA Z.Wg)]/\
  (v=0->∃T,W0 Z (AtKe Z Cont) T x a w)/\(v≠0->∃T,W0 Z (AtW2 Z Cont AnchW v) T x a w)
def AtKd(x:Option Nat)(g:iY)(w:aB):Prop:=
 g.status=.running/\∃a,stepG Z.P true g w=.go a w #[mk .disable]/\∃T,W0 Z (λ_=>AnchW) T x a w
end
section
variable(j:Nat)(Next:Option Nat->Goroutine->World->Prop)
def AtGoS(x:Option Nat)(g:iY)(w:aB):Prop:=
 g.status=.running/\∃b c a,x=some b/\stepG Z.P true g w=.spawn c a w #[]/\a.status=.running/\(oO Z w->nX Z w->WgLive Z.ty Z.Wg w->Works Z j b a w)/\Next none c w
def AtKeS(x:Option Nat)(g:iY)(w:aB):Prop:=
 g.status=.running/\∃a,stepG Z.P true g w=.go a w #[mk .enable]/\∃T,W0 Z (AtGoS Z j Next) T x a w
def AtA1(x:Option Nat)(g:iY)(w:aB):Prop:=
 g.status=.running/\∀v:Nat,v<2147483647->WgAt Z.ty Z.Wg w (v*KK) 0->
  ∃a,stepG Z.P true g w=.go a (w.setCell (stA Z.Wg) (.int .u64 ((v+1)*KK))) #[rd (stA Z.Wg),wr (stA Z.Wg)]/\∃T,W0 Z (AtKeS Z j Next) T x a (w.setCell (stA Z.Wg) (.int .u64 ((v+1)*KK)))
def AtKdS(x:Option Nat)(g:iY)(w:aB):Prop:=
 g.status=.running/\∃a,stepG Z.P true g w=.go a w #[mk .disable]/\∃T,W0 Z (AtA1 Z j Next) T x a w
end
def Spawns(Fin:Option Nat->Goroutine->World->Prop):Nat->Option Nat->Goroutine->World->Prop
 | 0,x,g,w=>Fin x g w
 | r+1,x,g,w=>∃T,W0 Z (AtKdS Z (Z.n - (r+1)) (Spawns Fin r)) T x g w
end
end
section
open Go.ConcR (KK wgBlock WgAt stA smA rd wr mk DC0 Bk g_of_ofEvents)
open Go.ConcN (WgLive ShN WD CTag sumTo upd upd_same upd_ne cnt Vc Ssum pend isOpen isW3 isFin Mode)
variable(Z:Pz)
def Au:Loc->Prop
 | .cell a=>a.block=Z.Wg\/a.block=Z.Al
 | _=>False
def Shun:Loc->Prop
 | .cell a=>Z.zD a.block
 | .obj r=>Z.zD r
 | _=>False
def CQ(l:Loc):Prop:=Shun Z l\/l.isMemory=false
def Gy(O:Nat->Nat->Prop)(i:Nat):Loc->Prop
 | .cell a=>O i a.block\/(a.block=Z.Cb/\a.spot=none/\jW i a.off)
 | .obj r=>O i r
 | _=>False
def Az(bx:Nat->Nat)(i:Nat):Loc->Prop
 | .cell a=>Z.oZ a.block\/a.block=bx i
 | .obj r=>Z.oZ r\/r=bx i
 | _=>False
structure Geo(j:Nat)(w:World)(O:Nat->Nat->Prop)(bx:Nat->Nat)(x:Option Nat):Prop where
 size:Z.L0<=w
 lt:∀i b,O i b->Z.L0<=b/\b<w.heap.size
 dj:∀i k b,O i b->O k b->i=k
 out:∀i b,j<=i->¬O i b
 nb:∀i k b,O i b->b≠bx k
 cur:∀i b,O i b->x≠some b
 zW:∀k,Z.oZ (bx k)\/(k<j/\Z.L0<=bx k/\bx k<w.heap.size)
 xl:∀b,x=some b->Z.L0<=b/\b<w.heap.size/\∀k,bx k≠b
variable{Z}
theorem Geo.apart(m:lZ Z){j:Nat}{w:aB}{O:Nat->Nat->Prop}{bx:Nat->Nat}{x:Option Nat}(h:Geo Z j w O bx x):Apart (Au Z) (CQ Z) (Gy Z O) (Az Z bx):=by
 have p:=λb t=>m.jQ b t;have o:∀i b,O i b->¬Z.oZ b/\b≠Z.Wg/\b≠Z.Al/\b≠Z.Cb/\¬Z.zD b:=λi b t=>by
  have n:=(h.lt i b t).1;refine⟨λu=>?_,?_,?_,?_,λe=>?_⟩
  have:=(p b u).1;omega
  have:=m.W0;omega
  have:=m.A0;omega
  have:=m.C0;omega
  have:=(m.sh b e).1;omega
 have s:∀k,bx k≠Z.Wg/\bx k≠Z.Al/\bx k≠Z.Cb/\¬Z.zD (bx k):=λk=>by
  obtain u|⟨_,n,_⟩:=h.zW k
  let⟨_,a,b,c,d⟩:=p _ u;exact⟨a,b,c,d⟩
  refine⟨?_,?_,?_,λe=>?_⟩
  have:=m.W0;omega
  have:=m.A0;omega
  have:=m.C0;omega
  have:=(m.sh _ e).1;omega
 refine⟨λi k l f g=>?_,λi k l f g=>?_,λi l f e=>?_,λi l f e=>?_,λi l f e=>?_,λi l f e=>?_,λl q e=>?_⟩
 cases l with
 | cell a=>
  obtain f|⟨n,-,v⟩:=f<;>obtain g|⟨z,-,y⟩:=g
  exact h.dj i k _ f g
  exact absurd z (o i _ f).2.2.2.1
  exact absurd n (o k _ g).2.2.2.1
  unfold jW at v y;omega
 | obj r=>exact h.dj i k r f g
 | _=>exact f.elim
 cases l with
 | cell a=>
  obtain f|⟨n,-,v⟩:=f
  obtain g|g:=g
  exact(o i _ f).1 g
  exact h.nb i k _ f g
  obtain g|g:=g
  exact(p _ g).2.2.2.1 n
  simp_all
 | obj r=>
  obtain g|g:=g
  exact(o i _ f).1 g
  exact h.nb i k _ f g
 | _=>assumption
 cases l with
 | cell a=>
  obtain f|⟨n,-,-⟩:=f
  obtain e|e:=e
  exact(o i _ f).2.1 e
  exact(o i _ f).2.2.1 e
  obtain e|e:=e
  exact m.WC (e.symm.trans n)
  exact m.AC (e.symm.trans n)
 | _=>assumption
 cases l with
 | cell a=>
  obtain f|f:=f<;>obtain e|e:=e
  exact(p _ f).2.1 e
  exact(p _ f).2.2.1 e
  exact(s i).1 (f.symm.trans e)
  exact(s i).2.1 (f.symm.trans e)
 | _=>trivial
 obtain e|e:=e
 cases l with
 | cell=>
  obtain f|⟨n,-,-⟩:=f
  exact(o i _ f).2.2.2.2 e
  exact(m.sh _ e).2.2.2 n
 | obj=>exact(o i _ f).2.2.2.2 e
 | _=>trivial
 cases l<;>first|trivial|cases e
 obtain e|e:=e
 cases l with
 | cell=>
  obtain f|f:=f
  exact(p _ f).2.2.2.2 e
  exact(s i).2.2.2 (f▸e)
 | obj=>
  obtain f|f:=f
  exact(p _ f).2.2.2.2 e
  exact(s i).2.2.2 (f▸e)
 | _=>trivial
 cases l<;>first|trivial|cases e
 cases l with
 | cell=>
  obtain e|e:=e
  obtain q|q:=q
  exact(m.sh _ e).2.1 q
  exact(m.sh _ e).2.2.1 q
  cases e
 | _=>trivial
section
variable[Go.ConcR.Payload]{i Lu:Nat}{O:Nat->Prop}{w w₁:World}
theorem Ba(c:lZ Z)(h:RW Z i Lu O w w₁):ConcN.RW Z.ty Z.Wg Z.e0 Z.n 0 (1 - 1) w w₁:=have e:=h.jQ _ c.e0;⟨λb j=>absurd j<|aj,h.live,λ⟨f,g,d⟩=>⟨f,e.trans g,d⟩,ConcN.cell_of_block e _⟩
theorem WS.rely(f:lZ Z){s d:Nat}{T:Tr}{g:iY}(h:WS Z i Lu O s T d g w)(e:RW Z i Lu O w w₁):WS Z i Lu O s T d g w₁:=by
 cases h with
 | work T g w h=>exact .work T g _<|.rely (λy a b c h k=>.trans Z h k) h e
 | rest s m d g w l h j=>exact .rest s m d g _ l (h.rely<|Ba f e)<|f.res _ _ _ _ _ e.size e.box e.own e.cell j
theorem WS.status{d:Nat}{T:Tr}(h:WS Z i Lu O s T d g w):g.status=.running\/g.status=.finished:=by
 cases h with
 | work T g w h=>exact .inl<|Wk.running (λ_ _ _ x=>x.1.1) (.refl Z _ _ _ w) h
 | rest s m d g w b h=>exact h.status
theorem WS.woken{d:Nat}{T:Tr}(h:WS Z i Lu O s T d g w)(a a':iY)(w':aB):Go.Conc.woken Z.P a a' w' g=g:=by
 unfold Go.Conc.woken;split
 exact again_running _ h.status
 rfl
theorem WS.running_of{d:Nat}{T:Tr}(h:WS Z i Lu O s T d g w)(a:s≠1):g.status=.running:=by
 cases h with
 | work T g w h=>exact Wk.running (λ_ _ _ x=>x.1.1) (.refl Z _ _ _ w) h
 | rest s m d g w _ h=>exact h.running_of a
end
section
variable[Go.ConcR.Payload](Z)(Cont AnchW:Goroutine->World->Prop)
def Fin(x:Option Nat)(g:iY)(w:aB):Prop:=x=none/\∃T,W0 Z (AtKd Z AnchW) T x g w
inductive CS:CTag->Nat->Tr->Nat->Option Nat->Goroutine->World->Prop
 | skd {r:Nat} {T:Tr} {x:Option Nat} {g:Goroutine} {w:World}:r<Z.n->W0 Z (AtKdS Z (Z.n - (r+1)) (Spawns Z (Fin Z AnchW) r)) T x g w->CS (.sp r 5) (Z.n - (r+1)) T 0 x g w
 | sa1 {r:Nat} {T:Tr} {x:Option Nat} {g:Goroutine} {w:World}:r<Z.n->W0 Z (AtA1 Z (Z.n - (r+1)) (Spawns Z (Fin Z AnchW) r)) T x g w->CS (.sp r 4) (Z.n - (r+1)) T 1 x g w
 | ske {r:Nat} {T:Tr} {x:Option Nat} {g:Goroutine} {w:World}:r<Z.n->W0 Z (AtKeS Z (Z.n - (r+1)) (Spawns Z (Fin Z AnchW) r)) T x g w->CS (.sp r 3) (Z.n - (r+1)) T 1 x g w
 | sgo {r:Nat} {T:Tr} {x:Option Nat} {g:Goroutine} {w:World}:r<Z.n->W0 Z (AtGoS Z (Z.n - (r+1)) (Spawns Z (Fin Z AnchW) r)) T x g w->CS (.sp r 2) (Z.n - (r+1)) T 0 x g w
 | kd {T:Tr} {x:Option Nat} {g:Goroutine} {w:World}:W0 Z (AtKd Z AnchW) T x g w->CS .kd Z.n T 0 x g w
 | anch {T:Tr} {x:Option Nat} {g:Goroutine} {w:World}:W0 Z (λ_=>AnchW) T x g w->CS .anch Z.n T 1 x g w
 | w1 {T:Tr} {x:Option Nat} {g:Goroutine} {w:World}:W0 Z (AtW1 Z Cont AnchW) T x g w->CS .w1 Z.n T 1 x g w
 | w2 {vs:Nat} {T:Tr} {x:Option Nat} {g:Goroutine} {w:World}:W0 Z (AtW2 Z Cont AnchW vs) T x g w->CS (.w2 vs) Z.n T 1 x g w
 | w3 {T:Tr} {x:Option Nat} {g:Goroutine} {w:World}:W0 Z (AtW3 Z Cont) T x g w->CS .w3 Z.n T 1 x g w
 | blk {T:Tr} {x:Option Nat} {g:Goroutine} {w:World}:(∀w₁,R0 Z x w w₁->AtW3 Z Cont x g w₁)->CS .blk Z.n T 1 x {g with status:=.blocked} w
 | w4 {T:Tr} {x:Option Nat} {g:Goroutine} {w:World}:W0 Z (AtW4 Z Cont) T x g w->CS .w4 Z.n T 1 x g w
 | ke {T:Tr} {x:Option Nat} {g:Goroutine} {w:World}:W0 Z (AtKe Z Cont) T x g w->CS .ke Z.n T 1 x g w
 | acq {T:Tr} {x:Option Nat} {g:Goroutine} {w:World}:W0 Z (AtAcq Z Cont) T x g w->CS .acq Z.n T 0 x g w
end
section
variable[Go.ConcR.Payload]{Cont AnchW:Goroutine->World->Prop}{tag:CTag}{j d:Nat}{T:Tr}{x:Option Nat}{a:Goroutine}{w w':World}
theorem CS.rely(h:CS Z Cont AnchW tag j T d x a w)(c:R0 Z x w w'):CS Z Cont AnchW tag j T d x a w':=by
 have b:∀y p q r,R0 Z y p q->R0 Z y q r->R0 Z y p r:=λ_ _ _ _ i k=>R0.trans Z i k
 cases h with
 | skd e h=>exact .skd e<|Wk.rely b h c
 | sa1 e h=>exact .sa1 e<|Wk.rely b h c
 | ske e h=>exact .ske e<|Wk.rely b h c
 | sgo e h=>exact .sgo e<|Wk.rely b h c
 | kd h=>exact .kd<|Wk.rely b h c
 | anch h=>exact .anch<|Wk.rely b h c
 | w1 h=>exact .w1<|Wk.rely b h c
 | w2 h=>exact .w2<|Wk.rely b h c
 | w3 h=>exact .w3<|Wk.rely b h c
 | blk h=>exact .blk λf g=>h f<|b _ _ _ _ c g
 | w4 h=>exact .w4<|Wk.rely b h c
 | ke h=>exact .ke<|Wk.rely b h c
 | acq h=>exact .acq<|Wk.rely b h c
theorem CS.status(b:∀g w,AnchW g w->g.status=.running)(h:CS Z Cont AnchW tag j T d x a w):(a.status=.running/\tag≠.blk)\/(a.status=.blocked/\tag=.blk):=by
 cases h with
 | skd _ h=>exact .inl ⟨Wk.running (λ_ _ _ x=>x.1) (iU Z _ w) h,aZ⟩
 | sa1 _ h=>exact .inl ⟨Wk.running (λ_ _ _ x=>x.1) (iU Z _ w) h,aZ⟩
 | ske _ h=>exact .inl ⟨Wk.running (λ_ _ _ x=>x.1) (iU Z _ w) h,aZ⟩
 | sgo _ h=>exact .inl ⟨Wk.running (λ_ _ _ x=>x.1) (iU Z _ w) h,aZ⟩
 | kd h=>exact .inl ⟨Wk.running (λ_ _ _ x=>x.1) (iU Z _ w) h,aZ⟩
 | anch h=>exact .inl ⟨Wk.running (λ_ g w x=>b g w x) (iU Z _ w) h,aZ⟩
 | w1 h=>exact .inl ⟨Wk.running (λ_ _ _ x=>x.1) (iU Z _ w) h,aZ⟩
 | w2 h=>exact .inl ⟨Wk.running (λ_ _ _ x=>x.1) (iU Z _ w) h,aZ⟩
 | w3 h=>exact .inl ⟨Wk.running (λ_ _ _ x=>x.1) (iU Z _ w) h,aZ⟩
 | blk=>simp
 | w4 h=>exact .inl ⟨Wk.running (λ_ _ _ x=>x.1) (iU Z _ w) h,aZ⟩
 | ke h=>exact .inl ⟨Wk.running (λ_ _ _ x=>x.1) (iU Z _ w) h,aZ⟩
 | acq h=>exact .inl ⟨Wk.running (λ_ _ _ x=>x.1) (iU Z _ w) h,aZ⟩
theorem CS.wokenBy(e:∀g w,AnchW g w->g.status=.running)(h:CS Z Cont AnchW tag j T d x a w)(n:R0 Z x w w')(g g':iY):
 ∃tag' T',CS Z Cont AnchW tag' j T' d x (woken Z.P g g' w' a) w'/\(tag'=tag\/(tag=.blk/\tag'=.w3))/\(mayWake Z.P g=true->g'.status=.running->tag'≠.blk):=by
 have b:=h.rely n;unfold Go.Conc.woken;split
 obtain⟨l,c⟩|⟨_,rfl⟩:=b.status e
 exact⟨tag,T,by rw[again_running _ (.inl l)];exact b,.inl rfl,λ_ _=>c⟩
 cases b with
 | blk f=>have i:=f w'<|iU Z x w';exact⟨.w3,.leaf,by rw[Go.ConcR.again_blocked i.1 i.2.1];exact .w3<|Wk.stop f,.inr ⟨rfl,rfl⟩,λ_ _=>aZ⟩
 rename_i o;exact⟨tag,T,b,.inl rfl,λk p=>absurd fU o⟩
end
end
section
open Go.ConcR (KK wgBlock WgAt stA smA rd wr mk DC0 Bk g_of_ofEvents)
open Go.ConcN (WgLive ShN WD CTag sumTo upd upd_same upd_ne cnt Vc Ssum pend isOpen isW3 isFin Mode)
variable{Z:Pz}{j:Nat}{w w':World}{O:Nat->Nat->Prop}{bx:Nat->Nat}{x x':Option Nat}{es:Array Event}{i:Nat}
def Xl{a:bT}{Wg:Nat}{w w':aB}(e:w'.heap[Wg]?=w.heap[Wg]?)(h:WgLive a Wg w):WgLive a Wg w':=have⟨c,b,h⟩:=h;⟨c,b,h.of_block e⟩
def oO.of(e:w'.heap[Z.Al]?=w.heap[Z.Al]?)(h:oO Z w):oO Z w':=have⟨v,h⟩:=h;⟨v,e.trans h⟩
def nX.of(e:w'.heap[Z.Cb]?=w.heap[Z.Cb]?)(h:nX Z w):nX Z w':=have⟨c,a,b⟩:=h;⟨c,e.trans a,b⟩
theorem c0J{i n:Nat}(h:jW i n)(a:i≠k):¬jW k n:=by unfold jW at *;omega
section
variable{O':Nat->Prop}(hZ:lZ Z)(hg:Geo Z j w O bx x)(h:DW Z i (bx i) (O i) O' w w' es)
include hZ hg h
theorem Qi(e:b<Z.L0)(d:b≠Z.Al)(c:b≠Z.Cb):w'.heap[b]?=w.heap[b]?:=
 h.old b (by have:=hg.size;omega) (λa=>by have:=(hg.lt i b a).1;omega) d c
theorem vD(d:Z.L0<=b)(c:b<w)(a:¬O i b):w'.heap[b]?=w.heap[b]?:=
 h.old b c a (by have:=hZ.A0;omega) (by have:=hZ.C0;omega)
theorem c0K(g:k≠i):RW Z k (bx k) (O k) w w':=by
 have f:=λb d=>have⟨a,c,m,p,q⟩:=hZ.jQ b d;Qi hZ hg h a m p
 refine⟨h.size,f,?_,λb d=>?_,λj=>Xl (Qi hZ hg h hZ.W0 hZ.WA hZ.WC) j,h.al,h.cb,λn l=>h.cell n<|c0J l g⟩
 obtain o|⟨_,a,c⟩:=hg.zW k
 exact f _ o
 exact vD hZ hg h a c λe=>hg.nb i k _ e rfl
 let⟨a,c⟩:=hg.lt k b d;exact vD hZ hg h a c λe=>g<|hg.dj k i b d e
theorem b7l:R0 Z x w w':=by
 refine⟨h.size,λb a=>?_,λb a=>?_,λj=>Xl (Qi hZ hg h hZ.W0 hZ.WA hZ.WC) j,λb a=>?_⟩
 let⟨c,f,d,e,k⟩:=hZ.jQ b a;exact Qi hZ hg h c d e
 let⟨c,f,_⟩:=hg.xl b a;exact vD hZ hg h c f λg=>hg.cur i b g a
 let⟨c,f,d,e⟩:=hZ.sh b a;exact Qi hZ hg h c d e
theorem i8(r:i<j):Geo Z j w' (upd O i O') bx x:=by
 have d:∀k b,upd O i O' k b->O k b\/(k=i/\O' b/\w.heap.size<=b):=λk b a=>by
  by_cases e:k=i
  subst e;rw[upd_same] at a;exact(h.new b a).imp id λy=>⟨rfl,a,y⟩
  rw[upd_ne O _ e] at a;simp_all
 have p:=h.size;refine⟨ay hg.size h.size,λk b a=>?_,λk m b g o=>?_,λk b g a=>?_,λk m b a=>?_,λk b a=>?_,λk=>(hg.zW k).imp id λy=>⟨y.1,y.2.1,aj⟩,λb a=>⟨(hg.xl b a).1,by have:=(hg.xl b a).2.1;omega,(hg.xl b a).2.2⟩⟩
 obtain c|⟨_,n,l⟩:=d k b a
 have:=hg.lt k b c;omega
 have:=h.Tn b n;have:=hg.size;omega
 obtain c|⟨c,n,l⟩:=d k b g<;>obtain f|⟨f,u,t⟩:=d m b o
 exact hg.dj k m b c f
 have:=(hg.lt k b c).2;omega
 have:=(hg.lt m b f).2;omega
 rw[c,f]
 obtain c|⟨c,_,_⟩:=d k b a
 exact hg.out k b g c
 omega
 obtain c|⟨_,_,l⟩:=d k b a
 exact hg.nb k m b c
 intro e;obtain q|⟨_,_,s⟩:=hg.zW m
 have:=(hZ.jQ _ q).1;have:=hg.size;omega
 omega
 obtain c|⟨_,_,l⟩:=d k b a
 exact hg.cur k b c
 intro e;have:=(hg.xl b e).2.1;omega
theorem c9M(p:i<j){t:Trace}(F:CT Z.c (Au Z) (CQ Z) (Gy Z O) (Az Z bx) t j)(x:∀op∈t,op.act.low w)(fn:FuncId)(pos:String):
 CT Z.c (Au Z) (CQ Z) (Gy Z (upd O i O')) (Az Z bx) (t++MemOp.ofEvents (Z.c+i) fn pos es) j:=by
 refine CT.appW ((i8 hZ hg h p).apart hZ) (F.grow (λk l c=>?_) λk l c=>?_) p λop z=>?_
 by_cases e:k=i
 subst e
 cases l with
 | cell a=>exact c.imp (λy=>by rw[upd_same];exact h.more _ y) id
 | obj r=>show upd O k O' k r;rw[upd_same];exact h.more r c
 | _=>exact c
 cases l with
 | cell a=>exact c.imp (λy=>by rw[upd_ne O _ e];exact y) id
 | obj r=>show upd O i O' k r;rw[upd_ne O _ e];exact c
 | _=>exact c
 by_cases e:k=i
 subst e;have C:∀{b:Nat}{l:Loc},w<=b->(∀n,l.low n->b<n)->∀m a,touchAt t m=some a->a.loc≠l:=λ{b l}J c m a E e=>by let⟨y,o,s⟩:=touch_of E;have:=c _ (e▸yi (x y<|Array.mem_of_getElem? o) s);omega
 cases l with
 | cell a=>
  obtain c|c:=c
  rw[upd_same] at c;obtain g|g:=h.new _ c
  exact .inl<|.inl g
  exact .inr<|C g λn u=>u
  exact .inl<|.inr c
 | obj r=>
  obtain g|g:=h.new _ (by have:upd O k O' k r:=c;rwa [upd_same] at this)
  exact .inl g
  exact .inr<|C g λn u=>u
 | _=>trivial
 left
 cases l with
 | cell=>exact c.imp (λy=>by rwa [upd_ne O _ e] at y) id
 | obj r=>have:upd O i O' k r:=c;rwa [upd_ne O _ e] at this
 | _=>exact c
 obtain⟨e,I,rfl⟩:=Go.Conc.mem_ofEvents z;refine⟨rfl,λy o=>?_⟩;have f:=h.ev e I;let⟨v,wr,D⟩:=e;cases v with
 | cell=>
  rw[show MemAct.ofEvent _=.access _ from rfl] at o;simp[MemAct.touch?,dO] at o;subst o;obtain⟨_,⟨g,d⟩|⟨g,d|d|⟨d,H⟩⟩⟩:=f
  subst d;exact .inl ⟨.inr g,aZ,aZ⟩
  exact .inr (.inl (.inl<|by rw[upd_same];exact d))
  exact .inr (.inl<|.inr d)
  exact .inr<|.inr ⟨d,H⟩
 | obj r=>
  let⟨_,g,d⟩:=f;subst g;have B:y=⟨.obj r,wr,.plain⟩:=by cases wr<;>(simp[MemAct.ofEvent,MemAct.touch?] at o;simp_all)
  subst B;obtain d|d:=d
  exact .inr (.inl<|by show upd O i O' i r;rw[upd_same];exact d)
  exact .inr<|.inr d
 | mark m=>cases m<;>trivial
 | _=>trivial
end
section
variable(hZ:lZ Z)(hg:Geo Z j w O bx x)(h:Conc.Aside Z.Wg w w')(hl:WgLive Z.ty Z.Wg w')
include hZ hg h hl
theorem Av(k:Nat):RW Z k (bx k) (O k) w w':=by
 have d:∀b,Z.L0<=b->b≠Z.Wg:=λb a=>by have:=hZ.W0;omega
 refine⟨fE h.size.symm,λb a=>h.block b (hZ.jQ b a).2.1,h.block _ ?_,λb a=>h.block b<|d b (hg.lt k b a).1,λ_=>hl,oO.of (h.block _<|dI hZ.WA),nX.of (h.block _<|dI hZ.WC),λn _=>ConcN.cell_of_block (h.block _<|.symm hZ.WC) n⟩;obtain e|⟨_,f,_⟩:=hg.zW k
 exact(hZ.jQ _ e).2.1
 grind
theorem H4:R0 Z x w w':=by refine⟨fE h.size.symm,λb a=>h.block b (hZ.jQ b a).2.1,λb a=>h.block b ?_,λ_=>hl,λb a=>h.block b (hZ.sh b a).2.1⟩;have:=(hg.xl b a).1;have:=hZ.W0;omega
theorem kn:Geo Z j w' O bx x:=have e:=h.size;⟨by rw[e];exact hg.size,λi b a=>by rw[e];exact hg.lt i b a,hg.dj,hg.out,hg.nb,hg.cur,λk=>by rw[e];exact hg.zW k,λb a=>by rw[e];exact hg.xl b a⟩
end
theorem c8n{g:Nat}{fn:FuncId}{pos:String}(h:∀e∈es,Bk Z.Wg e){Own Rd:Nat->Loc->Prop}(k:g=Z.c+i):∀op∈MemOp.ofEvents g fn pos es,OkW Z.c (Au Z) Own Rd i op:=by
 intro op c;obtain⟨e,j,rfl⟩:=Go.Conc.mem_ofEvents c;refine⟨k,λy b=>?_⟩;obtain d|d|⟨a,wr,rfl,l⟩:=h e j
 rw[Go.ConcR.ofEvent_loc_mark d] at b;cases b
 rw[Go.ConcR.ofEvent_loc_mark d] at b;cases b
 rw[Go.ConcR.ofEvent_cell] at b;simp[MemAct.touch?,dO] at b;subst b;exact .inl ⟨.inl l,aZ,aZ⟩
theorem c8o{fn:FuncId}{pos:String}(g:∀e∈es,Bk Z.Wg e){Own Rd:Nat->Loc->Prop}:∀op∈MemOp.ofEvents 0 fn pos es,Ok0 (Au Z) (CQ Z) Own Rd j op:=by
 intro op c;obtain⟨e,h,rfl⟩:=Go.Conc.mem_ofEvents c;refine⟨rfl,λy b=>?_⟩;obtain d|d|⟨a,wr,rfl,i⟩:=g e h
 rw[Go.ConcR.ofEvent_loc_mark d] at b;cases b
 rw[Go.ConcR.ofEvent_loc_mark d] at b;cases b
 rw[Go.ConcR.ofEvent_cell] at b;simp[MemAct.touch?,dO] at b;subst b;exact .inl ⟨.inl i,aZ⟩
section
variable(hZ:lZ Z)(hg:Geo Z j w O bx x)(h:D0 Z x x' w w' es)
include hZ hg h
theorem Hg(a:b<Z.L0):w'.heap[b]?=w.heap[b]?:=
 h.old b (by have:=hg.size;omega) λe=>by have:=(hg.xl b e).1;omega
theorem b7m(k:Nat):RW Z k (bx k) (O k) w w':=by
 have d:=λb a=>Hg hZ hg h (hZ.jQ b a).1;refine⟨h.size,d,?_,λb a=>h.old b (hg.lt k b a).2<|hg.cur k b a,Xl<|Hg hZ hg h hZ.W0,.of<|Hg hZ hg h hZ.A0,.of<|Hg hZ hg h hZ.C0,λn _=>ConcN.cell_of_block (Hg hZ hg h hZ.C0) n⟩;obtain f|⟨_,i,g⟩:=hg.zW k
 exact d _ f
 exact h.old _ g λe=>(hg.xl _ e).2.2 k rfl
theorem km:Geo Z j w' O bx x':=by
 have l:=h.size;have d:∀k,bx k<w.heap.size:=λk=>by
  obtain i|⟨_,_,c⟩:=hg.zW k
  have:=(hZ.jQ _ i).1;have:=hg.size;omega
  exact c
 refine⟨ay hg.size h.size,λk b a=>⟨(hg.lt k b a).1,by have:=(hg.lt k b a).2;omega⟩,hg.dj,hg.out,hg.nb,λk b a=>?_,λk=>(hg.zW k).imp id λy=>⟨y.1,y.2.1,aj⟩,λb a=>?_⟩
 obtain e|e|⟨n,e,g,c⟩:=h.cur
 rw[e];exact hg.cur k b a
 rw[e];simp
 rw[e];intro f;have:=(hg.lt k b a).2;injection f with f;omega
 obtain e|e|⟨n,e,g,c⟩:=h.cur
 rw[e] at a;exact⟨(hg.xl b a).1,by have:=(hg.xl b a).2.1;omega,(hg.xl b a).2.2⟩
 rw[e] at a;cases a
 rw[e] at a;injection a with a;subst a;exact⟨ay hg.size g,c,λk f=>by have:=d k;omega⟩
theorem c9N{fn:FuncId}{pos:String}:∀op∈MemOp.ofEvents 0 fn pos es,Ok0 (Au Z) (CQ Z) (Gy Z O) (Az Z bx) j op:=by
 have n:=km hZ hg h;intro op p;obtain⟨e,z,rfl⟩:=Go.Conc.mem_ofEvents p;refine⟨rfl,λy d=>?_⟩;have b:=h.ev e z;let⟨s,wr,w⟩:=e;unfold Ev0 at b
 cases s with
 | cell a=>
  rw[show MemAct.ofEvent _=.access _ from rfl] at d;simp[MemAct.touch?,dO] at d;subst d;obtain⟨_,_,⟨i,o⟩|i⟩:=b
  let⟨x,t,v,u,q⟩:=hZ.jQ _ i;refine .inr ⟨λg=>g.elim t v,λf=>f.elim q (by simp[Loc.isMemory]),λk _ c=>?_,λl=>iL⟩;obtain c|⟨c,_⟩:=c
  have:=(hg.lt k _ c).1;omega
  exact u c
  let⟨F,E,A⟩:=n.xl _ i;refine .inr ⟨λg=>?_,λf=>?_,λk _ c=>?_,λ_ k _ c=>?_⟩
  have:=hZ.W0;have:=hZ.A0;obtain g|g:=g<;>omega
  obtain f|f:=f
  have:=(hZ.sh _ f).1;omega
  trivial
  obtain c|⟨c,_⟩:=c
  exact n.cur k _ c i
  have:=hZ.C0;omega
  obtain c|c:=c
  have:=(hZ.jQ _ c).1;omega
  exact A k c.symm
 | obj=>
  dsimp at b;let⟨_,i,o,B⟩:=b;subst i;subst B;simp[MemAct.ofEvent,MemAct.touch?,dO] at d;subst d;let⟨x,t,v,u,q⟩:=hZ.jQ _ o
  exact .inr ⟨λg=>g,λf=>f.elim q (by simp[Loc.isMemory]),λk _ c=>by have:=(hg.lt k _ c).1;omega,λl=>by cases l⟩
 | mark m=>
  obtain b|⟨a,C,D⟩:=b
  cases m<;>first|rfl|trivial
  obtain rfl|rfl:=C<;>(simp[MemAct.ofEvent,MemAct.touch?,dO] at d;subst d;exact .inl ⟨.inl D,aZ⟩)
 | _=>trivial
end
end
section
open Go.ConcR (KK wgBlock WgAt stA smA rd wr mk DC0 Bk g_of_ofEvents)
open Go.ConcN (WgLive ShN WD CTag sumTo upd upd_same upd_ne cnt Vc Ssum pend isOpen isW3 isFin phi phi_mono phi_retag norel_of Deaf_absent get_map_set get_map_set_same sumTo_upd sumTo_congr)
variable[Go.ConcR.Payload](Z:Pz)(Cont AnchW:Goroutine->World->Prop)(t0:Trace)(B0:Nat)(w0:World)
structure Com(j:Nat)(gs:Array Goroutine)(w:World)(t:Trace)(D:Nat->WD)(O:Nat->Nat->Prop)(bx:Nat->Nat)(T:Nat->Tr)(q:Nat->Nat)(d0:Nat)(x:Option Nat):Prop where
 size:gs.size=Z.c+j
 old:∀i g,0<i->i<Z.c->gs[i]?=some g->QuitsD Z.P (q i) (Deaf t i) g
 wk:∀i,i<j->∃g,gs[Z.c+i]?=some g/\WS Z i (bx i) (O i) (D i).stage (T i) (D i).deaf g w
 geo:Geo Z j w O bx x
 ct:CT Z.c (Au Z) (CQ Z) (Gy Z O) (Az Z bx) t j
 norel:NoRelease (stA Z.Wg) t
 deaf0:Deaf t 0=d0
 deafW:∀i,i<j->Deaf t (Z.c+i)=(D i).deaf
 rel:∀i,i<j->(D i).stage<=6->∃r,Rel Z.Wg t (Z.c+i) r
 elder:∀b,Z.oZ b\/Z.zD b->w.heap[b]?=w0.heap[b]?
 al:oO Z w
 cb:nX Z w
 low:∀op∈t,op.act.low w.heap.size
 sfx:∃u,t=t0++u/\∀op∈u,op.g=0\/op.act.touch?=none\/∃i,i<j/\op.g=Z.c+i
 env:w.tape=w0.tape/\w.os=w0.os/\w.output=w0.output
def qp:CTag->Nat
 | .w3=>1
 | _=>0
def Inv(μ:Mu)(m:Machine)(t:Trace):Prop:=
 ∃(d:Array Goroutine)(w:aB)(i:Option (Nat×Nat))(j:Nat)(D:Nat->WD)(O:Nat->Nat->Prop)(k:Nat->Nat)(T:Nat->Tr)(q:Nat->Nat)(b:CTag)(f:Tr)(e:Nat)(x:Option Nat)(a:iY)(h g:Int),
  m=crowd d w i/\d[0]?=some a/\CS Z Cont AnchW b j f e x a w/\Com Z t0 w0 j d w t D O k T q e x/\WgAt Z.ty Z.Wg w h g/\ConcN.Mode j D b h g/\
  μ = ⟨phi Z.n (Vc j D) b+Ssum j D+sumTo Z.c q,T,f,qp b⟩
variable{Z Cont AnchW t0 w0}
variable{gs:Array Goroutine}{w w':World}{sl:Option (Nat×Nat)}{j:Nat}{t:Trace}{D:Nat->WD}{O:Nat->Nat->Prop}{bx:Nat->Nat}{T:Nat->Tr}{q:Nat->Nat}{tag:CTag}{T0:Tr}{d0:Nat}{x:Option Nat}{a:Goroutine}{st sm:Int}
theorem CS.bound(h:CS Z Cont AnchW tag j T0 d0 x a w):j+pend tag<=Z.n:=by cases h<;>simp only[pend]<;>(simp)<;>omega
theorem WT{t v:Trace}(h:∀op∈t,op.act.low B)(c:B<=b)(d:∀op∈v,op.act.low b):∀op∈t++v,op.act.low b:=
 λop a=>(dW.1 a).elim (λx=>MemAct.low_mono c<|h _ x)<|d op
theorem sd{g:Nat}{fn:FuncId}{pos:String}{es:Array Event}(h:∀e∈es,(MemAct.ofEvent e).low B):∀op∈MemOp.ofEvents g fn pos es,op.act.low B:=λop a=>by obtain⟨e,b,rfl⟩:=Go.Conc.mem_ofEvents a;grind
theorem workerStep(hZ:lZ Z)(W:∀g w,AnchW g w->g.status=.running)
 (ha:gs[0]?=some a)(K:CS Z Cont AnchW tag j T0 d0 x a w)(c:Com Z t0 w0 j gs w t D O bx T q d0 x)
 {i:Nat}(hi:i<j){g':iY}{es:Array Event}{s' d:Nat}{T':Tr}{O':tyP}{v B:Int}(hg:gs[Z.c+i]?=some g)(Q:stepG Z.P false g w=.go g' w' es)
 (n:R0 Z x w w')(oy:∀k,k<j->k≠i->RW Z k (bx k) (O k) w w')(mS:Geo Z j w' (upd O i O') bx x)
 (hct:CT Z.c (Au Z) (CQ Z) (Gy Z (upd O i O')) (Az Z bx) (t++MemOp.ofEvents (Z.c+i) g.frame.fn g.frame.place es) j)
 (P:WS Z i (bx i) O' s' T' d g' w')(X:∀e∈es,e.loc≠.mark (.release (stA Z.Wg)))(s:deafBehind (D i).deaf es=d)
 (I:s'<=6->∃r,Rel Z.Wg (t++MemOp.ofEvents (Z.c+i) g.frame.fn g.frame.place es) (Z.c+i) r)
 (R:oO Z w')(S:nX Z w')(F:∀e∈es,(MemAct.ofEvent e).low w')(m:w'.tape=w.tape/\w'.os=w.os/\w'.output=w.output)(U:WgAt Z.ty Z.Wg w' v B)
 (C:∀tag',(tag'=tag\/(tag=.blk/\tag'=.w3))->(mayWake Z.P g=true->g'.status=.running->tag'≠.blk)->ConcN.Mode j (upd D i ⟨s',0,d⟩) tag' v B)
 (V:(s'<(D i).stage/\cnt ⟨s',0,d⟩<=cnt (D i))\/(s'=(D i).stage/\sQ T' (T i))):
 ∃p ops J,runT Z.P (crowd gs w sl) (Z.c+i)=(.next p,ops)/\tV Z.n J ⟨phi Z.n (Vc j D) tag+Ssum j D+sumTo Z.c q,T,T0,qp tag⟩/\Inv Z Cont AnchW t0 w0 J p (t++ops):=by
 obtain⟨tag',T0',E,f,hwk⟩:=K.wokenBy W n g g';have hc:=hZ.c;have h0:(Z.c+i==0)=false:=iw
 have e1:=sumTo_upd D (⟨s',0,d⟩:WD) cnt hi;have e2:=sumTo_upd D (⟨s',0,d⟩:WD) WD.stage hi;have hbd:=K.bound;refine⟨_,_,⟨phi Z.n (Vc j _) tag'+Ssum j _+sumTo Z.c q,upd T i T',T0',qp tag'⟩,runT_crowd_go hg (by rw[h0];exact Q),?_,
  _,w',sl,j,upd D i ⟨s',0,d⟩,upd O i O',bx,upd T i T',q,tag',T0',d0,x,woken Z.P g g' w' a,v,B,rfl,iL,E,?_,U,C tag' f hwk,rfl⟩
 simp[Vc,Ssum] at *;obtain⟨h1,h2⟩|⟨h1,h2⟩:=V
 refine .stage _ _ ?_;dsimp;rw[phi_retag Z.n _ f];have:=phi_mono Z.n (v':=sumTo j λa=>cnt<|upd D i ⟨s',0,d⟩ a) (v:=sumTo j λa=>cnt<|D a) aj tag;omega
 have ec:cnt (⟨s',0,d⟩:WD)=cnt (D i):=by simp[cnt,h1]
 have ev:(sumTo j λa=>cnt<|upd D i ⟨s',0,d⟩ a)=sumTo j λa=>cnt (D a):=aj
 have Y:(sumTo j λa=>(upd D i ⟨s',0,d⟩ a).stage)=sumTo j λa=>(D a).stage:=aj
 refine .worker _ _ ?_ ⟨i,aj,by dsimp;rw[upd_same];exact h2,λk l=>upd_ne T _ l⟩;dsimp;rw[phi_retag Z.n _ f,ev,Y]
 refine⟨by simp[c.size],λk y l N M=>?_,λk l=>?_,mS,hct,c.norel.app<|norel_of X,by rw[Deaf_other _ aj _ g_of_ofEvents,c.deaf0],λk l=>?_,λk l o=>?_,λb hb=>(hb.elim (n.jQ b)<|n.AZ b).trans<|c.elder b hb,R,S,WT c.low n.size<|sd F,?_,m.1.trans c.env.1,m.2.1.trans c.env.2.1,m.2.2.trans c.env.2.2⟩
 rw[get_map_set _ _ _ _ aj] at M;obtain⟨z,hz,rfl⟩:=bC.1 M;have hq:=c.old k z l N hz;rw[woken_quitsD hq,Deaf_other _ aj _ g_of_ofEvents];exact hq
 by_cases e:k=i
 subst e;exact⟨g',get_map_set_same _ _ _ (by rw[c.size];omega),by rw[upd_same,upd_same,upd_same];exact P⟩
 let⟨y,M,G⟩:=c.wk k l;refine⟨y,by rw[get_map_set _ _ _ _ aj,M,eP,G.woken],?_⟩;rw[upd_ne D _ e,upd_ne T _ e,upd_ne O _ e];exact G.rely hZ<|oy k l e
 by_cases e:k=i
 subst e;rw[Deaf_own,c.deafW k l,upd_same];exact s
 rw[Deaf_other _ aj _ g_of_ofEvents,c.deafW k l,upd_ne D _ e]
 by_cases e:k=i
 subst e;rw[upd_same] at o;exact I o
 rw[upd_ne D _ e] at o;let⟨r,hr⟩:=c.rel k l o;exact⟨r,hr.appNot λL A=>by rw[g_of_ofEvents L A];omega⟩
 obtain⟨u,rfl,hu⟩:=c.sfx;refine⟨u++MemOp.ofEvents _ _ _ es,lu,λL A=>?_⟩;obtain h|h:=dW.1 A
 exact hu L h
 exact .inr<|.inr ⟨i,hi,g_of_ofEvents L h⟩
theorem callerStep(E:lZ Z)(Y:gs[0]?=some a)(c:Com Z t0 w0 j gs w t D O bx T q d0 x)
 {a':iY}{es:Array Event}{tag':CTag}{o:Tr}{P:Option Nat}{n l:Int}(G:stepG Z.P true a w=.go a' w' es)
 (oy:∀k,k<j->RW Z k (bx k) (O k) w w')(H:∀b,Z.oZ b\/Z.zD b->w'.heap[b]?=w.heap[b]?)(R:w.heap.size<=w')(B:Geo Z j w' O bx P)
 (Q:∀op∈MemOp.ofEvents 0 a.frame.fn a.frame.place es,Ok0 (Au Z) (CQ Z) (Gy Z O) (Az Z bx) j op)(N:∀e∈es,e.loc≠.mark (.release (stA Z.Wg)))
 (S:oO Z w')(J:nX Z w')(v:∀e∈es,(MemAct.ofEvent e).low w')(d:w'.tape=w.tape/\w'.os=w.os/\w'.output=w.output)
 (A:CS Z Cont AnchW tag' j o (deafBehind d0 es) P a' w')(M:WgAt Z.ty Z.Wg w' n l)(m:ConcN.Mode j D tag' n l)
 (K:phi Z.n (Vc j D) tag'<phi Z.n (Vc j D) tag\/(phi Z.n (Vc j D) tag'=phi Z.n (Vc j D) tag/\(sQ o T0\/(o=T0/\qp tag'<qp tag)))):
 ∃f ops s,runT Z.P (crowd gs w sl) 0=(.next f,ops)/\tV Z.n s ⟨phi Z.n (Vc j D) tag+Ssum j D+sumTo Z.c q,T,T0,qp tag⟩/\Inv Z Cont AnchW t0 w0 s f (t++ops):=by
 have I:=E.c;refine⟨_,_,⟨phi Z.n _ tag'+Ssum j D+sumTo Z.c q,T,o,qp tag'⟩,runT_crowd_go Y (kT),?_,
  _,w',sl,j,D,O,bx,T,q,tag',o,deafBehind d0 es,P,a',n,l,rfl,get_map_set_same _ _ _ (by rw[c.size];omega),A,?_,M,m,rfl⟩
 obtain h|⟨X,F|⟨F,h3⟩⟩:=K
 exact .stage _ _<|by dsimp;omega
 exact .starter _ _ (by dsimp;rw[X]) rfl F
 exact .blocks _ _ (by dsimp;rw[X]) rfl F h3
 refine⟨by simp[c.size],λk y g L C=>?_,λk g=>?_,B,c.ct.app0 I (c.geo.apart E) Q,c.norel.app<|norel_of N,by rw[Deaf_own,c.deaf0],λk g=>by rw[Deaf_other _ aj _ g_of_ofEvents,c.deafW k g],λk g U=>?_,λb W=>(H b W).trans<|c.elder b W,S,J,WT c.low R<|sd v,?_,d.1.trans c.env.1,d.2.1.trans c.env.2.1,d.2.2.trans c.env.2.2⟩
 rw[get_map_set _ _ _ _ aj] at C;obtain⟨z,hz,rfl⟩:=bC.1 C;have V:=c.old k z g L hz;rw[woken_quitsD V,Deaf_other _ aj _ g_of_ofEvents];exact V
 let⟨y,C,p⟩:=c.wk k g;exact⟨y,by rw[get_map_set _ _ _ _ aj,C,eP,p.woken],p.rely E<|oy k g⟩
 let⟨r,hr⟩:=c.rel k g U;exact⟨r,hr.appNot λop i=>by rw[g_of_ofEvents op i];omega⟩
 obtain⟨u,rfl,hu⟩:=c.sfx;refine⟨u++MemOp.ofEvents 0 _ _ es,lu,λop i=>?_⟩;obtain h|h:=dW.1 i
 exact hu op h
 exact .inl<|g_of_ofEvents op h
theorem b7o(hZ:lZ Z)(K:∀g w,AnchW g w->g.status=.running)(ha:gs[0]?=some a)(S:CS Z Cont AnchW tag j T0 d0 x a w)(b:Com Z t0 w0 j gs w t D O bx T q d0 x)(P:WgAt Z.ty Z.Wg w st sm)(B:ConcN.Mode j D tag st sm)
 (Ul:R0 Z x w w){i:Nat}(h0:0<i)(R:i<Z.c)(V:gs[i]?=some g)(c:g.status=.running):
 ∃l ops G,runT Z.P (crowd gs w sl) i=(.next l,ops)/\tV Z.n G ⟨phi Z.n (Vc j D) tag+Ssum j D+sumTo Z.c q,T,T0,qp tag⟩/\Inv Z Cont AnchW t0 w0 G l (t++ops):=by
 have p:=b.old i g h0 R V
 cases A:q i with
 | zero=>rw[A] at p;rw[p.1] at c;cases c
 | succ k=>
  rw[A] at p;obtain⟨hf,_⟩|⟨_,s,Q,L,H,U⟩:=p
  rw[hf] at c;cases c
  have M:(i==0)=false:=iw
  have X:sumTo Z.c (upd q i k)+(k+1)=sumTo Z.c q+k:=by have:=sumTo_upd q k id R;simp_all
  obtain⟨f,o,F,n,_⟩:=S.wokenBy K Ul g s;have Y:∀v∈MemOp.ofEvents i g.frame.fn g.frame.place Q,v.act.touch?=none:=λv d=>by obtain⟨e,J,rfl⟩:=Go.Conc.mem_ofEvents d;exact touch_mute<|L e J
  refine⟨_,_,⟨phi Z.n (Vc j D) f+Ssum j D+sumTo Z.c _,T,o,qp f⟩,runT_crowd_go V (by rw[M];exact H w),.stage _ _<|by dsimp;rw[phi_retag Z.n _ n];omega,
   _,w,sl,j,D,O,bx,T,upd q i k,f,o,d0,x,woken Z.P g s w a,st,sm,rfl,iL,F,?_,P,B.retag n,rfl⟩
  refine⟨by simp[b.size],λm y C N E=>?_,λm C=>?_,b.geo,b.ct.appMute aj g_of_ofEvents Y,b.norel.app<|norel_of λe J hl=>?_,by rw[Deaf_other _ aj _ g_of_ofEvents,b.deaf0],λm C=>by rw[Deaf_other _ aj _ g_of_ofEvents,b.deafW m C],λm C W=>?_,b.elder,b.al,b.cb,WT b.low (ak _)<|sd λe J=>low_mute (L e J) _,?_,b.env⟩
  by_cases e:m=i
  subst e;rw[get_map_set_same _ _ _ (bn.1 V).1] at E;obtain rfl:=aO E;rw[upd_same,Deaf_own];exact U
  rw[get_map_set _ _ _ _ (dI e)] at E;obtain⟨z,hz,rfl⟩:=bC.1 E;have p:=b.old m z C N hz;rw[woken_quitsD p,upd_ne q k e,Deaf_other _ aj _ g_of_ofEvents];exact p
  let⟨y,E,I⟩:=b.wk m C;exact⟨y,by rw[get_map_set _ _ _ _ aj,E,eP,I.woken],I⟩
  have:=L e J;rw[show e=⟨.mark _,e.write,e.sync⟩ by rw[<-hl]] at this;cases this
  let⟨r,hr⟩:=b.rel m C W;exact⟨r,hr.appNot λv d=>by rw[g_of_ofEvents v d];omega⟩
  obtain⟨u,rfl,hu⟩:=b.sfx;refine⟨u++MemOp.ofEvents i _ _ Q,lu,λv d=>?_⟩;obtain h|h:=dW.1 d
  exact hu v h
  simp_all
end
section
open Go.ConcR (KK wgBlock WgAt stA smA rd wr mk DC0 Bk g_of_ofEvents bk_of_mute ofEvent_loc_mark)
open Go.ConcN (WgLive ShN WD CTag sumTo upd upd_same upd_ne cnt Vc Ssum pend isOpen isW3 isFin phi deafBehind_idle bk_cell Vc_upd OpenSt AllQuit others_uncounted Vc_le le_sumTo)
variable{i:Nat}
variable[Go.ConcR.Payload]{Z:Pz}{Cont AnchW:Goroutine->World->Prop}{t0:Trace}{w0:World}
variable{gs:Array Goroutine}{w w':World}{sl:Option (Nat×Nat)}{j:Nat}{t:Trace}{D:Nat->WD}{O:Nat->Nat->Prop}{bx:Nat->Nat}{T:Nat->Tr}{q:Nat->Nat}{tag:CTag}{T0:Tr}{d0:Nat}{x:Option Nat}{a:Goroutine}{st sm:Int}
theorem ki{es:Array Event}(f:lZ Z)(i:Z.L0<=B)(b:∀e∈es,Bk Z.Wg e):∀e∈es,(MemAct.ofEvent e).low B:=λe d=>by
 obtain c|c|⟨a,wr,rfl,h⟩:=b e d
 rw[ofEvent_loc_mark c];trivial
 rw[ofEvent_loc_mark c];trivial
 show a.block<B;have:=f.W0;omega
theorem c6C{O':tyP}{es:Array Event}(d:∀e∈es,EvW Z i b O' B e):∀e∈es,(MemAct.ofEvent e).low B:=λe j=>by
 have h:=d e j;let⟨c,wr,k⟩:=e;cases c with
 | cell=>exact h.1
 | obj=>
  let⟨g,f,_⟩:=h;subst f
  cases wr<;>exact g
 | mark m=>cases m<;>trivial
 | _=>trivial
theorem c36{O':tyP}{es:Array Event}(d:∀e∈es,EvW Z i b O' B e):∀e∈es,e.loc≠.mark .disable/\e.loc≠.mark .enable/\e.loc≠.mark (.release (stA Z.Wg)):=λe f=>by
 have h:=d e f;let⟨c,wr,g⟩:=e;cases c with
 | mark m=>cases m<;>first|trivial|simp
 | cell=>simp
 | obj=>simp
 | _=>trivial
theorem c38{α:Type}(f:Nat->α)(i:Nat):upd f i (f i)=f:=by
 funext k
 by_cases e:k=i
 subst e;rw[upd_same]
 rw[upd_ne f _ e]
def Ao(c:ConcN.Mode j D tag st sm)(b:Nat):ConcN.Mode j (upd D i ⟨(D i).stage,0,b⟩) tag st sm:=c.same 0 b
theorem stepWorker(hZ:lZ Z)(hAr:∀g w,AnchW g w->g.status=.running)(hn:Z.n<2147483648)
 (ha:gs[0]?=some a)(hcs:CS Z Cont AnchW tag j T0 d0 x a w)(hcom:Com Z t0 w0 j gs w t D O bx T q d0 x)(hwg:WgAt Z.ty Z.Wg w st sm)(hmode:ConcN.Mode j D tag st sm)
 (hi:i<j)(hg:gs[Z.c+i]?=some g)(hrun:g.status=.running):
 ∃m₁ ops μ',runT Z.P (crowd gs w sl) (Z.c+i)=(.next m₁,ops)/\tV Z.n μ' ⟨phi Z.n (Vc j D) tag+Ssum j D+sumTo Z.c q,T,T0,qp tag⟩/\Inv Z Cont AnchW t0 w0 μ' m₁ (t++ops):=by
 obtain⟨g₁,hg₁,hs⟩:=hcom.wk i hi;obtain rfl:g=g₁:=by rw[hg] at hg₁;exact aO hg₁
 generalize hst:(D i).stage=s at hs;generalize Z6:T i=Ti at hs;generalize hde:(D i).deaf=dd at hs;have hb:=hcs.bound;have hVj:=Vc_le j D;have hc:=hZ.c;have hdk:Deaf t (Z.c+i)=dd:=by rw[hcom.deafW i hi,hde]
 have eO:upd O i (O i)=O:=c38 O i;have bookG:∀{g':iY}{w':aB}{es:Array Event}{s' dd' m':Nat}{st' sm':Int},stepG Z.P false g w=.go g' w' es->Conc.Aside Z.Wg w w'->WgAt Z.ty Z.Wg w' st' sm'->(∀e∈es,Bk Z.Wg e)->
  (∀jx e,es[jx]?=some e->(MemAct.ofEvent e).touch?=none\/0<deafBehind dd (es.extract 0 jx))->WS Z i (bx i) (O i) s' (DX m') dd' g' w'->deafBehind dd es=dd'->s<=6->
  (∀tag',(tag'=tag\/(tag=.blk/\tag'=.w3))->(mayWake Z.P g=true->g'.status=.running->tag'≠.blk)->ConcN.Mode j (upd D i ⟨s',0,dd'⟩) tag' st' sm')->((s'<s/\cnt ⟨s',0,dd'⟩<=cnt (D i))\/(s'=s/\sQ (DX m') Ti))->
  ∃m₁ ops μ',runT Z.P (crowd gs w sl) (Z.c+i)=(.next m₁,ops)/\tV Z.n μ' ⟨phi Z.n (Vc j D) tag+Ssum j D+sumTo Z.c q,T,T0,qp tag⟩/\Inv Z Cont AnchW t0 w0 μ' m₁ (t++ops):=by
  intro g' w' es s' dd' m' st' sm' hgo hAs hwg' hbk hd hs' hdd h6 hmode' hlt;have hl:WgLive Z.ty Z.Wg w':=⟨_,_,hwg'⟩;refine workerStep (O':=O i) hZ hAr ha hcs hcom hi hg hgo (H4 hZ hcom.geo hAs hl) (λk _ _=>Av hZ hcom.geo hAs hl k) (by rw[eO];exact kn hZ hcom.geo hAs hl) (by rw[eO];exact hcom.ct.appW (hcom.geo.apart hZ) hi (c8n hbk rfl)) hs' (ConcN.norel_of_Bk hbk) (by rw[hde];exact hdd)
   (λ_=>let ⟨r,hr⟩:=hcom.rel i hi aj;⟨r,hr.book hdk _ _ hbk hd⟩) (oO.of (hAs.block _ (dI hZ.WA)) hcom.al) (nX.of (hAs.block _ (dI hZ.WC)) hcom.cb) (ki hZ (by rw[hAs.size];exact hcom.geo.size) hbk) ⟨hAs.tape,hAs.os,hAs.output⟩ hwg' hmode'
   (by rw[hst,Z6];exact hlt)
 have book:∀{g':iY}{w':aB}{es:Array Event}{s' dd' m':Nat}{st' sm':Int},stepG Z.P false g w=.go g' w' es->Conc.Aside Z.Wg w w'->WgAt Z.ty Z.Wg w' st' sm'->(∀e∈es,Bk Z.Wg e)->
  (∀jx e,es[jx]?=some e->(MemAct.ofEvent e).touch?=none\/0<deafBehind dd (es.extract 0 jx))->WS Z i (bx i) (O i) s' (DX m') dd' g' w'->deafBehind dd es=dd'->s<=6->
  ConcN.Mode j (upd D i ⟨s',0,dd'⟩) tag st' sm'->((s'<s/\cnt ⟨s',0,dd'⟩<=cnt (D i))\/(s'=s/\sQ (DX m') Ti))->
  ∃m₁ ops μ',runT Z.P (crowd gs w sl) (Z.c+i)=(.next m₁,ops)/\tV Z.n μ' ⟨phi Z.n (Vc j D) tag+Ssum j D+sumTo Z.c q,T,T0,qp tag⟩/\Inv Z Cont AnchW t0 w0 μ' m₁ (t++ops):=
  λhgo hAs hwg' hbk hd hs' hdd h6 hmode' hlt=>bookG hgo hAs hwg' hbk hd hs' hdd h6 (λ_ ht _=>hmode'.retag ht) hlt
 cases hs with
 | work T1 g w h=>
  rcases Wk.cases h with hstop|hstep
  ·
   obtain⟨hR0,hres⟩:=hstop w (RW.refl Z _ _ _ w);obtain⟨_,hhas,g',hgo,m₂,hk⟩:=hR0;have hAs:Conc.Aside Z.Wg w w:=.refl _ w;have hl:WgLive Z.ty Z.Wg w:=⟨_,_,hwg⟩;refine workerStep (O':=O i) (s':=6) (T':=DX m₂) hZ hAr ha hcs hcom hi hg hgo (H4 hZ hcom.geo hAs hl) (λk _ _=>Av hZ hcom.geo hAs hl k) (by rw[eO];exact hcom.geo) (by rw[eO];exact hcom.ct.appMute aj g_of_ofEvents (λop hop=>by obtain⟨e,he,rfl⟩:=Go.Conc.mem_ofEvents hop;simp at he;subst he;rfl)) (.rest 6 m₂ 0 g' w aj (.k1 hk) hres)
    (by intro e he;simp at he;subst he;simp[mk]) (by rw[hde];rfl) (λ_=>⟨t.size,Rel.new hdk _ _⟩) hcom.al hcom.cb (by intro e he;simp at he;subst he;show Z.Wg<_;have:=hZ.W0;have:=hcom.geo.size;omega) ⟨rfl,rfl,rfl⟩ hwg (λ_ ht _=>(hmode.counted hi aj (.inl rfl) _ _).retag ht) (.inl ⟨aj,by simp[cnt,hst]⟩)
  ·obtain⟨T',g',w',es,O',hlt,hgo,hD,hg'⟩:=hstep w (RW.refl Z _ _ _ w);have hmk:=c36 hD.ev;refine workerStep (O':=O') (s':=7) (T':=T') hZ hAr ha hcs hcom hi hg hgo (b7l hZ hcom.geo hD) (λk _ hk=>c0K hZ hcom.geo hD hk) (i8 hZ hcom.geo hD hi) (c9M hZ hcom.geo hD hi hcom.ct hcom.low _ _) (.work T' g' w' hg') (λe he=>(hmk e he).2.2)
    (by rw[hde];exact deafBehind_idle (λe he=>⟨(hmk e he).1,(hmk e he).2.1⟩) 0) (λh=>aj) (hD.al hcom.al) (hD.cb hcom.cb) (c6C hD.ev) ⟨hD.tape,hD.os,hD.output⟩ (hwg.of_block (Qi hZ hcom.geo hD hZ.W0 hZ.WA hZ.WC))
    (λ_ ht _=>ConcN.Mode.retag (by have:=Ao (i:=i) hmode 0;rwa [hst] at this) ht) (.inr ⟨hst.symm,by rw[Z6];exact hlt⟩)
 | rest s m d g w h6 h hres=>
  have idle:∀{g':iY}{m':Nat},stepG Z.P false g w=.go g' w #[]->ConcN.WSit Z.P Z.ty Z.Wg Z.e0 Z.n PG PG 0 1 Z.v0 s m' dd g' w->m'+1=m->
   ∃m₁ ops μ',runT Z.P (crowd gs w sl) (Z.c+i)=(.next m₁,ops)/\tV Z.n μ' ⟨phi Z.n (Vc j D) tag+Ssum j D+sumTo Z.c q,T,T0,qp tag⟩/\Inv Z Cont AnchW t0 w0 μ' m₁ (t++ops):=by
   intro g' m' hgo hs' hm;subst hm;exact book hgo (.refl Z.Wg w) hwg aZ aZ (.rest s m' dd g' w h6 hs' hres) rfl h6 (by have:=Ao (i:=i) hmode dd;rwa [hst] at this) (.inr ⟨rfl,ja m'⟩)
  have hbW:bx i≠Z.Wg:=by
   rcases hcom.geo.zW i with h|⟨_,h,_⟩
   ·exact(hZ.jQ _ h).2.1
   ·have:=hZ.W0;omega
  have xE:∀(v:aX),Z.ni i (bx i) (O i) (w.setCell (stA Z.Wg) v):=λv=>hZ.res _ _ _ _ _ (fE (aside_setCell w (stA Z.Wg) v).size.symm) ((aside_setCell w (stA Z.Wg) v).block _ hbW) (λb hb=>by have:=(hcom.geo.lt i b hb).1;have:=hZ.W0;exact(aside_setCell w (stA Z.Wg) v).block b (by show b≠Z.Wg;omega)) (λk _=>ConcN.cell_of_block ((aside_setCell w (stA Z.Wg) v).block _ (dI hZ.WC)) k) hres
  have Rz:∀(v:aX),Z.ni i (bx i) (O i) (w.setCell (smA Z.Wg) v):=λv=>hZ.res _ _ _ _ _ (fE (aside_setCell w (smA Z.Wg) v).size.symm) ((aside_setCell w (smA Z.Wg) v).block _ hbW) (λb hb=>by have:=(hcom.geo.lt i b hb).1;have:=hZ.W0;exact(aside_setCell w (smA Z.Wg) v).block b (by show b≠Z.Wg;omega)) (λk _=>ConcN.cell_of_block ((aside_setCell w (smA Z.Wg) v).block _ (dI hZ.WC)) k) hres
  cases h with
  | r0 h=>omega
  | k1 h=>
   rcases Goes.cases h with hstop|⟨m',rfl,hstep⟩
   ·obtain⟨_,g',hgo,m₂,hk⟩:=hstop w (ConcN.RW.refl w);exact book hgo (.refl Z.Wg w) hwg (by intro e he;simp at he;subst he;exact .inl rfl) (by intro jx e he;exact .inl (by have:=Array.mem_of_getElem? he;simp at this;subst this;rfl)) (.rest 5 m₂ 1 g' w aj (.d1 hk) hres) rfl aj
     (hmode.counted hi aj (.inr rfl) _ _) (.inl ⟨aj,by simp[cnt,hst]⟩)
   ·obtain⟨g',w',es,hgo,⟨rfl,rfl⟩,hg'⟩:=hstep w (ConcN.RW.refl w)
    exact idle hgo (.k1 hg') rfl
  | d1 h=>
   rcases Goes.cases h with hstop|⟨m',rfl,hstep⟩
   ·obtain⟨_,hall⟩:=hstop w (ConcN.RW.refl w);have hc1:cnt (D i)=1:=by simp[cnt,hst]
    have hV1:1<=Vc j D:=by have:=le_sumTo (f:=λx=>cnt (D x)) hi;simp only[Vc];omega
    have bk2:∀e∈#[rd (stA Z.Wg),wr (stA Z.Wg)],Bk Z.Wg e:=by intro e he;simp at he;rcases he with rfl|rfl<;>exact bk_cell _ _ rfl
    have df2:∀jx e,(#[rd (stA Z.Wg),wr (stA Z.Wg)]:Array Event)[jx]?=some e->(MemAct.ofEvent e).touch?=none\/0<deafBehind 1 ((#[rd (stA Z.Wg),wr (stA Z.Wg)]:Array Event).extract 0 jx):=by
     intro jx e he
     match jx,he with
     | 0,_=>exact .inr (by simp[deafBehind])
     | 1,_=>exact .inr (by simp[deafBehind,rd])
     | jx+2,he=>simp at he
    have hq0:cnt (⟨1,0,1⟩:WD)=0:=rfl;have opq:OpenSt j D->OpenSt j (upd D i ⟨1,0,1⟩):=λh a ha=>by
     by_cases e:a=i
     ·subst e;rw[upd_same];simp
     ·rw[upd_ne D _ e];exact h a ha
    have hvu:=Vc_upd D (⟨1,0,1⟩:WD) hi
    cases hmode with
    | opn h1 h2 h3=>
     obtain⟨v,hv⟩:∃v,Vc j D+pend tag=v+1:=⟨Vc j D+pend tag - 1,aj⟩;rw[hv] at hwg;have hw1:WgAt Z.ty Z.Wg w (((v:Nat)+1)*KK+((0:Nat):Int)) 0:=by simpa using hwg
     obtain⟨g',hgo,_,hq⟩:=hall v 0 aj aj hw1;obtain⟨q',hq⟩:=hq aj;have hv':Vc j (upd D i ⟨1,0,1⟩)+pend tag=v:=aj
     refine book hgo (aside_setCell w (stA Z.Wg) _) (hwg.setSt _) bk2 df2 (.rest 1 q' 1 _ _ aj (.quit hq) (xE _)) rfl aj ?_ (.inl ⟨aj,by simp[cnt]⟩);have e:((v:Nat):Int)*KK+((0:Nat):Int)=((Vc j (upd D i ⟨1,0,1⟩)+pend tag:Nat):Int)*KK:=by rw[hv'];simp
     rw[e]
     exact .opn h1 (opq h2) (λvs ev=>by have:=h3 vs ev;omega)
    | reg h1 h2 h3=>
     obtain⟨v,hv⟩:∃v,Vc j D=v+1:=⟨Vc j D - 1,aj⟩;rw[hv] at hwg;have hp:pend tag=0:=by cases tag<;>first|rfl|exact h1.elim
     have hw1:WgAt Z.ty Z.Wg w (((v:Nat)+1)*KK+((1:Nat):Int)) 0:=by simpa using hwg
     obtain⟨g',hgo,hlast,hq⟩:=hall v 1 aj aj hw1;by_cases hv0:v=0
     ·subst hv0;obtain⟨m₂,hk⟩:=hlast ⟨rfl,rfl⟩;refine book hgo (aside_setCell w (stA Z.Wg) _) (hwg.setSt _) bk2 df2 (.rest 4 m₂ 1 _ _ aj (.d2 hk) (xE _)) rfl aj ?_ (.inl ⟨aj,by simp[cnt]⟩);have hoth:∀a,a<j->a≠i->(D a).stage=1:=λa ha e=>by have c0:=others_uncounted hi hv hc1 a ha e;have:=h2 a ha;simp only[cnt] at c0;split at c0<;>omega
      have:=ConcN.Mode.last (j:=j) (D:=upd D i ⟨4,0,1⟩) (tag:=tag) i h1 hi (by rw[upd_same];simp) (λa ha e=>by rw[upd_ne D _ e];exact hoth a ha e);rw[upd_same] at this;simpa using this
     ·obtain⟨q',hq⟩:=hq aj;have hv':Vc j (upd D i ⟨1,0,1⟩)=v:=aj
      refine book hgo (aside_setCell w (stA Z.Wg) _) (hwg.setSt _) bk2 df2 (.rest 1 q' 1 _ _ aj (.quit hq) (xE _)) rfl aj ?_ (.inl ⟨aj,by simp[cnt]⟩);have e:((v:Nat):Int)*KK+((1:Nat):Int)=((Vc j (upd D i ⟨1,0,1⟩):Nat):Int)*KK+1:=by rw[hv'];simp
      rw[e]
      exact .reg h1 (opq h2) aj
    | last L _ h2 h3 h4=>
     by_cases e:i=L
     ·subst e;omega
     ·have:=h4 i hi e;omega
    | sema h2=>have:=h2 i hi;omega
    | fin _ h2=>have:=h2 i hi;omega
   ·obtain⟨g',w',es,hgo,⟨rfl,rfl⟩,hg'⟩:=hstep w (ConcN.RW.refl w)
    exact idle hgo (.d1 hg') rfl
  | d2 h=>
   rcases Goes.cases h with hstop|⟨m',rfl,hstep⟩
   ·obtain⟨_,hx⟩:=hstop w (ConcN.RW.refl w);obtain⟨hW3,hoth,rfl,rfl⟩:=hmode.isLast hi aj;simp only[hst] at hwg;obtain⟨g',hgo,m₂,hk⟩:=hx (by simpa using hwg);refine book hgo (.refl Z.Wg w) hwg (by intro e he;simp at he;subst he;exact bk_cell _ _ rfl) (by intro jx e he;match jx,he with|0,_=>exact .inr (by simp[deafBehind])|jx+1,he=>simp at he) (.rest 3 m₂ 1 _ _ aj (.d3 hk) hres) rfl aj ?_ (.inl ⟨aj,by simp[cnt]⟩);have:=ConcN.Mode.last (j:=j) (D:=upd D i ⟨3,0,1⟩) (tag:=tag) i hW3 hi (by rw[upd_same];simp) (λa ha e=>by rw[upd_ne D _ e];exact hoth a ha e);rw[upd_same] at this;simpa using this
   ·obtain⟨g',w',es,hgo,⟨rfl,rfl⟩,hg'⟩:=hstep w (ConcN.RW.refl w)
    exact idle hgo (.d2 hg') rfl
  | d3 h=>
   rcases Goes.cases h with hstop|⟨m',rfl,hstep⟩
   ·obtain⟨_,hx⟩:=hstop w (ConcN.RW.refl w);obtain⟨hW3,hoth,rfl,rfl⟩:=hmode.isLast hi aj;simp only[hst] at hwg;obtain⟨g',hgo,m₂,hk⟩:=hx (by simpa using hwg);refine book hgo (aside_setCell w (stA Z.Wg) _) (hwg.setSt 0) (by intro e he;simp at he;subst he;exact bk_cell _ _ rfl) (by intro jx e he;match jx,he with|0,_=>exact .inr (by simp[deafBehind])|jx+1,he=>simp at he) (.rest 2 m₂ 1 _ _ aj (.d4 hk) (xE _)) rfl aj ?_ (.inl ⟨aj,by simp[cnt]⟩);have:=ConcN.Mode.last (j:=j) (D:=upd D i ⟨2,0,1⟩) (tag:=tag) i hW3 hi (by rw[upd_same];simp) (λa ha e=>by rw[upd_ne D _ e];exact hoth a ha e);rw[upd_same] at this;simpa using this
   ·obtain⟨g',w',es,hgo,⟨rfl,rfl⟩,hg'⟩:=hstep w (ConcN.RW.refl w)
    exact idle hgo (.d3 hg') rfl
  | d4 h=>
   rcases Goes.cases h with hstop|⟨m',rfl,hstep⟩
   ·obtain⟨_,hmw,hx⟩:=hstop w (ConcN.RW.refl w);obtain⟨hW3,hoth,rfl,rfl⟩:=hmode.isLast hi aj;simp only[hst] at hwg;obtain⟨g',hgo,q',hq⟩:=hx (by simpa using hwg);have hrun':g'.status=.running:=by
     cases q' with
     | zero=>exact absurd hq.2 dA
     | succ q'=>exact hq.elim (λx=>absurd x.2 dA) (λx=>x.1)
    refine bookG hgo (aside_setCell w (smA Z.Wg) _) (hwg.setSm 1) (es:=semEvents (smA Z.Wg)) ConcN.bk_sem ?_ (.rest 1 q' 1 _ _ aj (.quit hq) (Rz _)) (by simp[deafBehind,semEvents]) aj ?_ (.inl ⟨aj,by simp[cnt]⟩)
    ·intro jx e he
     match jx,he with
     | 0,he=>simp[semEvents] at he;subst he;exact .inl rfl
     | 1,_=>exact .inr (by simp[deafBehind,semEvents])
     | 2,_=>exact .inr (by simp[deafBehind,semEvents])
     | 3,he=>simp[semEvents] at he;subst he;exact .inl rfl
     | jx+4,he=>simp[semEvents] at he
    ·intro tag' ht hw;have hnb:=hw hmw hrun';have e3:tag'=.w3:=by
      rcases ht with rfl|⟨_,rfl⟩
      ·cases tag'<;>first|rfl|exact hW3.elim|exact absurd rfl hnb
      ·rfl
     subst e3;simp only[if_true];exact .sema λa ha=>by
      by_cases e:a=i
      ·subst e;rw[upd_same]
      ·rw[upd_ne D _ e];exact hoth a ha e
   ·obtain⟨g',w',es,hgo,⟨rfl,rfl⟩,hg'⟩:=hstep w (ConcN.RW.refl w)
    exact idle hgo (.d4 hg') rfl
  | quit h=>
   cases m with
   | zero=>rw[h.1] at hrun;cases hrun
   | succ q'=>
    rcases h with⟨hf,_⟩|⟨_,g',es,hmute,hstep,hq⟩
    ·rw[hf] at hrun;cases hrun
    ·have hbk:∀e∈es,Bk Z.Wg e:=λe he=>bk_of_mute (hmute e he);have hno:∀jx e,es[jx]?=some e->(MemAct.ofEvent e).touch?=none\/0<deafBehind dd (es.extract 0 jx):=λjx e he=>.inl (touch_mute (hmute e (Array.mem_of_getElem? he)));exact book (hstep w) (.refl Z.Wg w) hwg hbk hno (.rest 1 q' _ _ _ aj (.quit hq) hres) rfl aj (by have:=Ao (i:=i) hmode (deafBehind dd es);rwa [hst] at this) (.inr ⟨rfl,ja q'⟩)
end
end Go.Mc
