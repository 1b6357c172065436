/- A part of what the last file proves. -/
import Derived.Test.YtgpbhjjajpbeeaaGreatDoorL03
set_option linter.all false
set_option maxHeartbeats 1600000
namespace Go.Mc
section
open Go.Conc
open Go.ConcR (KK wgBlock WgAt stA smA rd wr mk DC0 Bk g_of_ofEvents)
open Go.ConcN (WgLive ShN WD CTag sumTo upd upd_same upd_ne cnt Vc Ssum pend isOpen isW3 isFin Mode)
variable(Z:Pz)
def Shp:Loc->Prop
 | .cell a=>a.block=Z.Wg\/a.block=Z.Al
 | _=>False
def Shun:Loc->Prop
 | .cell a=>Z.ShB a.block
 | .obj r=>Z.ShB r
 | _=>False
def a6z(l:Loc):Prop:=Shun Z l\/l.isMemory=false
def a8Q(O:Nat->Nat->Prop)(i:Nat):Loc->Prop
 | .cell a=>O i a.block\/(a.block=Z.Cb/\a.spot=none/\myCell i a.off)
 | .obj r=>O i r
 | _=>False
def Rdp(bx:Nat->Nat)(i:Nat):Loc->Prop
 | .cell a=>Z.Eld a.block\/a.block=bx i
 | .obj r=>Z.Eld r\/r=bx i
 | _=>False
structure Geo(j:Nat)(w:World)(O:Nat->Nat->Prop)(bx:Nat->Nat)(x:Option Nat):Prop where
 size:Z.L0<=w.heap.size
 lt:∀i b,O i b->Z.L0<=b/\b<w.heap.size
 dj:∀i k b,O i b->O k b->i=k
 out:∀i b,j<=i->¬O i b
 nb:∀i k b,O i b->b≠bx k
 cur:∀i b,O i b->x≠some b
 bxl:∀k,Z.Eld (bx k)\/(k<j/\Z.L0<=bx k/\bx k<w.heap.size)
 xl:∀b,x=some b->Z.L0<=b/\b<w.heap.size/\∀k,bx k≠b
variable{Z}
theorem Geo.apart(hZ:a0f Z){j:Nat}{w:World}{O:Nat->Nat->Prop}{bx:Nat->Nat}{x:Option Nat}(h:Geo Z j w O bx x):Apart (Shp Z) (a6z Z) (a8Q Z O) (Rdp Z bx):=by
 have e0:=fun b hb=>hZ.eld b hb;have hO:∀i b,O i b->¬Z.Eld b/\b≠Z.Wg/\b≠Z.Al/\b≠Z.Cb/\¬Z.ShB b:=fun i b hb=>by
  have h1:=(h.lt i b hb).1;refine⟨fun he=>?_,?_,?_,?_,fun hs=>?_⟩
  ·have:=(e0 b he).1;omega
  ·have:=hZ.W0;omega
  ·have:=hZ.A0;omega
  ·have:=hZ.C0;omega
  ·have:=(hZ.sh b hs).1;omega
 have hB:∀k,bx k≠Z.Wg/\bx k≠Z.Al/\bx k≠Z.Cb/\¬Z.ShB (bx k):=fun k=>by
  rcases h.bxl k with he|⟨_,h1,_⟩
  ·obtain⟨_,a,b,c,d⟩:=e0 _ he;exact⟨a,b,c,d⟩
  ·refine⟨?_,?_,?_,fun hs=>?_⟩
   ·have:=hZ.W0;omega
   ·have:=hZ.A0;omega
   ·have:=hZ.C0;omega
   ·have:=(hZ.sh _ hs).1;omega
 refine⟨fun i k l hi hk=>?_,fun i k l hi hk=>?_,fun i l hi hs=>?_,fun i l hi hs=>?_,fun i l hi hs=>?_,fun i l hi hs=>?_,fun l hl hs=>?_⟩
 ·cases l with
  | cell a=>
   rcases hi with hi|⟨h1,-,h2⟩<;>rcases hk with hk|⟨k1,-,k2⟩
   ·exact h.dj i k _ hi hk
   ·exact absurd k1 (hO i _ hi).2.2.2.1
   ·exact absurd h1 (hO k _ hk).2.2.2.1
   ·unfold myCell at h2 k2;omega
  | obj r=>exact h.dj i k r hi hk
  | _=>exact hi.elim
 ·cases l with
  | cell a=>
   rcases hi with hi|⟨h1,-,h2⟩
   ·rcases hk with hk|hk
    ·exact(hO i _ hi).1 hk
    ·exact h.nb i k _ hi hk
   ·rcases hk with hk|hk
    ·exact(e0 _ hk).2.2.2.1 h1
    ·exact(hB k).2.2.1 (hk.symm.trans h1)
  | obj r=>
   rcases hk with hk|hk
   ·exact(hO i _ hi).1 hk
   ·exact h.nb i k _ hi hk
  | _=>exact hi.elim
 ·cases l with
  | cell a=>
   rcases hi with hi|⟨h1,-,-⟩
   ·rcases hs with hs|hs
    ·exact(hO i _ hi).2.1 hs
    ·exact(hO i _ hi).2.2.1 hs
   ·rcases hs with hs|hs
    ·exact hZ.WC (hs.symm.trans h1)
    ·exact hZ.AC (hs.symm.trans h1)
  | _=>exact hs.elim
 ·cases l with
  | cell a=>
   rcases hi with hi|hi<;>rcases hs with hs|hs
   ·exact(e0 _ hi).2.1 hs
   ·exact(e0 _ hi).2.2.1 hs
   ·exact(hB i).1 (hi.symm.trans hs)
   ·exact(hB i).2.1 (hi.symm.trans hs)
  | _=>exact hs.elim
 ·rcases hs with hs|hs
  ·cases l with
   | cell a=>
    rcases hi with hi|⟨h1,-,-⟩
    ·exact(hO i _ hi).2.2.2.2 hs
    ·exact(hZ.sh _ hs).2.2.2 h1
   | obj r=>exact(hO i _ hi).2.2.2.2 hs
   | _=>exact hi.elim
  ·cases l<;>first|exact(hi:False).elim|cases hs
 ·rcases hs with hs|hs
  ·cases l with
   | cell a=>
    rcases hi with hi|hi
    ·exact(e0 _ hi).2.2.2.2 hs
    ·exact(hB i).2.2.2 (hi▸hs)
   | obj r=>
    rcases hi with hi|hi
    ·exact(e0 _ hi).2.2.2.2 hs
    ·exact(hB i).2.2.2 (hi▸hs)
   | _=>exact hi.elim
  ·cases l<;>first|exact(hi:False).elim|cases hs
 ·cases l with
  | cell a=>
   rcases hs with hs|hs
   ·rcases hl with hl|hl
    ·exact(hZ.sh _ hs).2.1 hl
    ·exact(hZ.sh _ hs).2.2.1 hl
   ·cases hs
  | _=>exact hl.elim
section
variable[Go.ConcR.Payload]{i bxi:Nat}{O:Nat->Prop}{w w₁:World}
theorem rw_lib(hZ:a0f Z)(h:RW Z i bxi O w w₁):ConcN.RW Z.ty Z.Wg Z.e0 Z.n 0 (1 - 1) w w₁:=by
 have e:=h.eld _ hZ.e0;exact⟨fun b hb=>absurd hb (by omega),h.live,fun⟨cs,h1,h2⟩=>⟨cs,e.trans h1,h2⟩,ConcN.cell_of_block e _⟩
theorem WS.rely(hZ:a0f Z){s d:Nat}{T:Tr}{g:Goroutine}(h:WS Z i bxi O s T d g w)(hr:RW Z i bxi O w w₁):WS Z i bxi O s T d g w₁:=by
 cases h with
 | work T g w h=>exact .work T g w₁ (Wk.rely (R:=RW Z i bxi) (fun y a b c h k=>RW.trans Z h k) h hr)
 | rest s m d g w hs h hR=>exact .rest s m d g w₁ hs (h.rely (rw_lib hZ hr)) (hZ.res _ _ _ _ _ hr.size hr.box hr.own hr.cell hR)
theorem WS.status{s d:Nat}{T:Tr}{g:Goroutine}(h:WS Z i bxi O s T d g w):g.status=.running\/g.status=.finished:=by
 cases h with
 | work T g w h=>exact .inl (Wk.running (fun _ _ _ x=>x.1.1) (RW.refl Z _ _ _ w) h)
 | rest s m d g w hs h hR=>exact h.status
theorem WS.woken{s d:Nat}{T:Tr}{g:Goroutine}(h:WS Z i bxi O s T d g w)(a a':Goroutine)(w':World):Go.Conc.woken Z.P a a' w' g=g:=by
 unfold Go.Conc.woken;split
 ·exact again_running _ h.status
 ·rfl
theorem WS.running_of{s d:Nat}{T:Tr}{g:Goroutine}(h:WS Z i bxi O s T d g w)(hs:s≠1):g.status=.running:=by
 cases h with
 | work T g w h=>exact Wk.running (fun _ _ _ x=>x.1.1) (RW.refl Z _ _ _ w) h
 | rest s m d g w _ h hR=>exact h.running_of hs
end
section
variable[Go.ConcR.Payload](Z)(Cont AnchW:Goroutine->World->Prop)
def Fin(x:Option Nat)(g:Goroutine)(w:World):Prop:=x=none/\∃T,W0 Z (AtKd Z AnchW) T x g w
inductive CS:CTag->Nat->Tr->Nat->Option Nat->Goroutine->World->Prop
 | skd {r:Nat} {T:Tr} {x:Option Nat} {g:Goroutine} {w:World}:r<Z.n->W0 Z (AtKdS Z (Z.n - (r+1)) (Spawns Z (Fin Z AnchW) r)) T x g w->CS (.sp r 5) (Z.n - (r+1)) T 0 x g w
 | sa1 {r:Nat} {T:Tr} {x:Option Nat} {g:Goroutine} {w:World}:r<Z.n->W0 Z (AtA1 Z (Z.n - (r+1)) (Spawns Z (Fin Z AnchW) r)) T x g w->CS (.sp r 4) (Z.n - (r+1)) T 1 x g w
 | ske {r:Nat} {T:Tr} {x:Option Nat} {g:Goroutine} {w:World}:r<Z.n->W0 Z (AtKeS Z (Z.n - (r+1)) (Spawns Z (Fin Z AnchW) r)) T x g w->CS (.sp r 3) (Z.n - (r+1)) T 1 x g w
 | sgo {r:Nat} {T:Tr} {x:Option Nat} {g:Goroutine} {w:World}:r<Z.n->W0 Z (AtGoS Z (Z.n - (r+1)) (Spawns Z (Fin Z AnchW) r)) T x g w->CS (.sp r 2) (Z.n - (r+1)) T 0 x g w
 | kd {T:Tr} {x:Option Nat} {g:Goroutine} {w:World}:W0 Z (AtKd Z AnchW) T x g w->CS .kd Z.n T 0 x g w
 | anch {T:Tr} {x:Option Nat} {g:Goroutine} {w:World}:W0 Z (fun _=>AnchW) T x g w->CS .anch Z.n T 1 x g w
 | w1 {T:Tr} {x:Option Nat} {g:Goroutine} {w:World}:W0 Z (AtW1 Z Cont AnchW) T x g w->CS .w1 Z.n T 1 x g w
 | w2 {vs:Nat} {T:Tr} {x:Option Nat} {g:Goroutine} {w:World}:W0 Z (AtW2 Z Cont AnchW vs) T x g w->CS (.w2 vs) Z.n T 1 x g w
 | w3 {T:Tr} {x:Option Nat} {g:Goroutine} {w:World}:W0 Z (AtW3 Z Cont) T x g w->CS .w3 Z.n T 1 x g w
 | blk {T:Tr} {x:Option Nat} {g:Goroutine} {w:World}:(∀w₁,R0 Z x w w₁->AtW3 Z Cont x g w₁)->CS .blk Z.n T 1 x {g with status:=.blocked} w
 | w4 {T:Tr} {x:Option Nat} {g:Goroutine} {w:World}:W0 Z (AtW4 Z Cont) T x g w->CS .w4 Z.n T 1 x g w
 | ke {T:Tr} {x:Option Nat} {g:Goroutine} {w:World}:W0 Z (AtKe Z Cont) T x g w->CS .ke Z.n T 1 x g w
 | acq {T:Tr} {x:Option Nat} {g:Goroutine} {w:World}:W0 Z (AtAcq Z Cont) T x g w->CS .acq Z.n T 0 x g w
end
section
variable[Go.ConcR.Payload]{Cont AnchW:Goroutine->World->Prop}{tag:CTag}{j d:Nat}{T:Tr}{x:Option Nat}{a:Goroutine}{w w':World}
theorem CS.rely(h:CS Z Cont AnchW tag j T d x a w)(hr:R0 Z x w w'):CS Z Cont AnchW tag j T d x a w':=by
 have tr:∀y p q r,R0 Z y p q->R0 Z y q r->R0 Z y p r:=fun _ _ _ _ h1 h2=>R0.trans Z h1 h2
 cases h with
 | skd hn h=>exact .skd hn (Wk.rely tr h hr)
 | sa1 hn h=>exact .sa1 hn (Wk.rely tr h hr)
 | ske hn h=>exact .ske hn (Wk.rely tr h hr)
 | sgo hn h=>exact .sgo hn (Wk.rely tr h hr)
 | kd h=>exact .kd (Wk.rely tr h hr)
 | anch h=>exact .anch (Wk.rely tr h hr)
 | w1 h=>exact .w1 (Wk.rely tr h hr)
 | w2 h=>exact .w2 (Wk.rely tr h hr)
 | w3 h=>exact .w3 (Wk.rely tr h hr)
 | blk h=>exact .blk fun w₂ h₂=>h w₂ (tr _ _ _ _ hr h₂)
 | w4 h=>exact .w4 (Wk.rely tr h hr)
 | ke h=>exact .ke (Wk.rely tr h hr)
 | acq h=>exact .acq (Wk.rely tr h hr)
theorem CS.status(hAr:∀g w,AnchW g w->g.status=.running)(h:CS Z Cont AnchW tag j T d x a w):(a.status=.running/\tag≠.blk)\/(a.status=.blocked/\tag=.blk):=by
 cases h with
 | skd _ h=>exact .inl ⟨Wk.running (fun _ _ _ x=>x.1) (R0.refl Z _ w) h,by simp⟩
 | sa1 _ h=>exact .inl ⟨Wk.running (fun _ _ _ x=>x.1) (R0.refl Z _ w) h,by simp⟩
 | ske _ h=>exact .inl ⟨Wk.running (fun _ _ _ x=>x.1) (R0.refl Z _ w) h,by simp⟩
 | sgo _ h=>exact .inl ⟨Wk.running (fun _ _ _ x=>x.1) (R0.refl Z _ w) h,by simp⟩
 | kd h=>exact .inl ⟨Wk.running (fun _ _ _ x=>x.1) (R0.refl Z _ w) h,by simp⟩
 | anch h=>exact .inl ⟨Wk.running (fun _ g w x=>hAr g w x) (R0.refl Z _ w) h,by simp⟩
 | w1 h=>exact .inl ⟨Wk.running (fun _ _ _ x=>x.1) (R0.refl Z _ w) h,by simp⟩
 | w2 h=>exact .inl ⟨Wk.running (fun _ _ _ x=>x.1) (R0.refl Z _ w) h,by simp⟩
 | w3 h=>exact .inl ⟨Wk.running (fun _ _ _ x=>x.1) (R0.refl Z _ w) h,by simp⟩
 | blk h=>exact .inr ⟨rfl,rfl⟩
 | w4 h=>exact .inl ⟨Wk.running (fun _ _ _ x=>x.1) (R0.refl Z _ w) h,by simp⟩
 | ke h=>exact .inl ⟨Wk.running (fun _ _ _ x=>x.1) (R0.refl Z _ w) h,by simp⟩
 | acq h=>exact .inl ⟨Wk.running (fun _ _ _ x=>x.1) (R0.refl Z _ w) h,by simp⟩
theorem CS.wokenBy(hAr:∀g w,AnchW g w->g.status=.running)(h:CS Z Cont AnchW tag j T d x a w)(hr:R0 Z x w w')(g g':Goroutine):
 ∃tag' T',CS Z Cont AnchW tag' j T' d x (woken Z.P g g' w' a) w'/\(tag'=tag\/(tag=.blk/\tag'=.w3))/\(mayWake Z.P g=true->g'.status=.running->tag'≠.blk):=by
 have h':=h.rely hr;unfold Go.Conc.woken;split
 ·rcases h'.status hAr with⟨hs,hne⟩|⟨_,rfl⟩
  ·exact⟨tag,T,by rw[again_running _ (.inl hs)];exact h',.inl rfl,fun _ _=>hne⟩
  ·cases h' with
   | blk hb=>
    rename_i g0;have h3:=hb w' (R0.refl Z x w');exact⟨.w3,.leaf,by rw[Go.ConcR.again_blocked h3.1 h3.2.1];exact .w3 (Wk.stop hb),.inr ⟨rfl,rfl⟩,fun _ _=>by simp⟩
 ·rename_i hc;exact⟨tag,T,h',.inl rfl,fun h1 h2=>absurd (by simp[h1,h2]) hc⟩
end
end
section
open Go.Conc
open Go.ConcR (KK wgBlock WgAt stA smA rd wr mk DC0 Bk g_of_ofEvents)
open Go.ConcN (WgLive ShN WD CTag sumTo upd upd_same upd_ne cnt Vc Ssum pend isOpen isW3 isFin Mode)
variable{Z:Pz}{j:Nat}{w w':World}{O:Nat->Nat->Prop}{bx:Nat->Nat}{x x':Option Nat}{es:Array Event}{i:Nat}
theorem a2T{ty:TypeId}{Wg:Nat}{w w':World}(e:w'.heap[Wg]?=w.heap[Wg]?)(h:WgLive ty Wg w):WgLive ty Wg w':=by
 obtain⟨st,sm,h⟩:=h;exact⟨st,sm,h.of_block e⟩
theorem a0D.of(e:w'.heap[Z.Al]?=w.heap[Z.Al]?)(h:a0D Z w):a0D Z w':=by
 obtain⟨v,h⟩:=h;exact⟨v,e.trans h⟩
theorem a0t.of(e:w'.heap[Z.Cb]?=w.heap[Z.Cb]?)(h:a0t Z w):a0t Z w':=by
 obtain⟨cs,h1,h2⟩:=h;exact⟨cs,e.trans h1,h2⟩
theorem b7D{i k n:Nat}(h:myCell i n)(hne:i≠k):¬myCell k n:=by unfold myCell at *;omega
section
variable{O':Nat->Prop}(hZ:a0f Z)(hg:Geo Z j w O bx x)(h:DW Z i (bx i) (O i) O' w w' es)
include hZ hg h
theorem a2U{b:Nat}(hb:b<Z.L0)(h1:b≠Z.Al)(h2:b≠Z.Cb):w'.heap[b]?=w.heap[b]?:=
 h.old b (by have:=hg.size;omega) (fun ho=>by have:=(hg.lt i b ho).1;omega) h1 h2
theorem a8R{b:Nat}(hb:Z.L0<=b)(hs:b<w.heap.size)(hn:¬O i b):w'.heap[b]?=w.heap[b]?:=
 h.old b hs hn (by have:=hZ.A0;omega) (by have:=hZ.C0;omega)
theorem b7E{k:Nat}(hk:k≠i):RW Z k (bx k) (O k) w w':=by
 have el:∀b,Z.Eld b->w'.heap[b]?=w.heap[b]?:=fun b hb=>by
  obtain⟨h1,h2,h3,h4,h5⟩:=hZ.eld b hb;exact a2U hZ hg h h1 h3 h4
 refine⟨h.size,el,?_,fun b hb=>?_,fun hl=>a2T (a2U hZ hg h hZ.W0 hZ.WA hZ.WC) hl,h.al,h.cb,fun n hn=>h.cell n (b7D hn hk)⟩
 ·rcases hg.bxl k with he|⟨_,h1,h2⟩
  ·exact el _ he
  ·exact a8R hZ hg h h1 h2 fun ho=>hg.nb i k _ ho rfl
 ·obtain⟨h1,h2⟩:=hg.lt k b hb;exact a8R hZ hg h h1 h2 fun ho=>hk (hg.dj k i b hb ho)
theorem b4x:R0 Z x w w':=by
 refine⟨h.size,fun b hb=>?_,fun b hb=>?_,fun hl=>a2T (a2U hZ hg h hZ.W0 hZ.WA hZ.WC) hl,fun b hb=>?_⟩
 ·obtain⟨h1,h2,h3,h4,h5⟩:=hZ.eld b hb;exact a2U hZ hg h h1 h3 h4
 ·obtain⟨h1,h2,_⟩:=hg.xl b hb;exact a8R hZ hg h h1 h2 fun ho=>hg.cur i b ho hb
 ·obtain⟨h1,h2,h3,h4⟩:=hZ.sh b hb;exact a2U hZ hg h h1 h3 h4
theorem c0c(hij:i<j):Geo Z j w' (upd O i O') bx x:=by
 have key:∀k b,upd O i O' k b->O k b\/(k=i/\O' b/\w.heap.size<=b):=fun k b hb=>by
  by_cases e:k=i
  ·subst e;rw[upd_same] at hb;exact(h.new b hb).imp id fun y=>⟨rfl,hb,y⟩
  ·rw[upd_ne O _ e] at hb;exact .inl hb
 have hsz:=h.size;refine⟨Nat.le_trans hg.size h.size,fun k b hb=>?_,fun k m b hk hm=>?_,fun k b hk hb=>?_,fun k m b hb=>?_,fun k b hb=>?_,fun k=>(hg.bxl k).imp id fun y=>⟨y.1,y.2.1,by omega⟩,fun b hb=>⟨(hg.xl b hb).1,by have:=(hg.xl b hb).2.1;omega,(hg.xl b hb).2.2⟩⟩
 ·rcases key k b hb with h1|⟨_,h2,h3⟩
  ·have:=hg.lt k b h1;omega
  ·have:=h.in_ b h2;have:=hg.size;omega
 ·rcases key k b hk with h1|⟨h1,h2,h3⟩<;>rcases key m b hm with k1|⟨k1,k2,k3⟩
  ·exact hg.dj k m b h1 k1
  ·have:=(hg.lt k b h1).2;omega
  ·have:=(hg.lt m b k1).2;omega
  ·rw[h1,k1]
 ·rcases key k b hb with h1|⟨h1,_,_⟩
  ·exact hg.out k b hk h1
  ·omega
 ·rcases key k b hb with h1|⟨_,_,h3⟩
  ·exact hg.nb k m b h1
  ·intro e;rcases hg.bxl m with he|⟨_,_,h4⟩
   ·have:=(hZ.eld _ he).1;have:=hg.size;omega
   ·omega
 ·rcases key k b hb with h1|⟨_,_,h3⟩
  ·exact hg.cur k b h1
  ·intro e;have:=(hg.xl b e).2.1;omega
theorem c6b(hij:i<j){t:Trace}(ct:CT Z.c (Shp Z) (a6z Z) (a8Q Z O) (Rdp Z bx) t j)(low:∀op∈t,op.act.low w.heap.size)(fn:FuncId)(pos:String):
 CT Z.c (Shp Z) (a6z Z) (a8Q Z (upd O i O')) (Rdp Z bx) (t++MemOp.ofEvents (Z.c+i) fn pos es) j:=by
 have ap:=(c0c hZ hg h hij).apart hZ;refine CT.appW ap (ct.grow (fun k l hl=>?_) fun k l hl=>?_) hij fun op hop=>?_
 ·by_cases e:k=i
  ·subst e
   cases l with
   | cell a=>exact hl.imp (fun y=>by rw[upd_same];exact h.more _ y) id
   | obj r=>show upd O k O' k r;rw[upd_same];exact h.more r hl
   | _=>exact hl
  ·cases l with
   | cell a=>exact hl.imp (fun y=>by rw[upd_ne O _ e];exact y) id
   | obj r=>show upd O i O' k r;rw[upd_ne O _ e];exact hl
   | _=>exact hl
 ·by_cases e:k=i
  ·subst e;have unt:∀{b:Nat}{l:Loc},w.heap.size<=b->(∀n,l.low n->b<n)->∀m a,touchAt t m=some a->a.loc≠l:=fun{b l}hb hl m a ha e=>by
    obtain⟨y,hy,hya⟩:=touch_of ha;have:=hl _ (e▸b0I (low y (Array.mem_of_getElem? hy)) hya);omega
   cases l with
   | cell a=>
    rcases hl with hl|hl
    ·rw[upd_same] at hl;rcases h.new _ hl with h1|h1
     ·exact .inl (.inl h1)
     ·exact .inr (unt h1 fun n hn=>hn)
    ·exact .inl (.inr hl)
   | obj r=>
    have hl':O' r:=by have:upd O k O' k r:=hl;rwa [upd_same] at this
    rcases h.new _ hl' with h1|h1
    ·exact .inl h1
    ·exact .inr (unt h1 fun n hn=>hn)
   | _=>exact .inl hl
  ·left
   cases l with
   | cell a=>exact hl.imp (fun y=>by rwa [upd_ne O _ e] at y) id
   | obj r=>have:upd O i O' k r:=hl;rwa [upd_ne O _ e] at this
   | _=>exact hl
 ·obtain⟨e,he,rfl⟩:=Go.Conc.mem_ofEvents hop;refine⟨rfl,fun y hy=>?_⟩;have hev:=h.ev e he;obtain⟨loc,wr,sy⟩:=e;unfold EvW at hev
  cases loc with
  | cell a=>
   rw[show MemAct.ofEvent ⟨.cell a,wr,sy⟩=.access ⟨.cell a,wr,sy⟩ from rfl] at hy;simp only[MemAct.touch?,Option.some.injEq] at hy;subst hy;obtain⟨_,⟨h1,h2⟩|⟨h1,h2|h2|⟨h2,h3⟩⟩⟩:=hev
   ·dsimp only at h2;subst h2;exact .inl ⟨.inr h1,by simp,by simp⟩
   ·exact .inr (.inl (.inl (by rw[upd_same];exact h2)))
   ·exact .inr (.inl (.inr h2))
   ·exact .inr (.inr ⟨h2,h3⟩)
  | obj r=>
   dsimp only at hev;obtain⟨_,h1,h2⟩:=hev;subst h1;have hy':y=⟨.obj r,wr,.plain⟩:=by
    cases wr<;>(simp only[MemAct.ofEvent,MemAct.touch?,Option.some.injEq] at hy;exact hy.symm)
   subst hy';rcases h2 with h2|h2
   ·exact .inr (.inl (by show upd O i O' i r;rw[upd_same];exact h2))
   ·exact .inr (.inr h2)
  | mark m=>
   cases m<;>first|exact(hev:False).elim|(simp only[MemAct.ofEvent,MemAct.touch?] at hy;cases hy)
  | _=>exact(hev:False).elim
end
section
variable(hZ:a0f Z)(hg:Geo Z j w O bx x)(h:Aside Z.Wg w w')(hl:WgLive Z.ty Z.Wg w')
include hZ hg h hl
theorem a6A(k:Nat):RW Z k (bx k) (O k) w w':=by
 have nW:∀b,Z.L0<=b->b≠Z.Wg:=fun b hb=>by have:=hZ.W0;omega
 refine⟨Nat.le_of_eq h.size.symm,fun b hb=>h.block b (hZ.eld b hb).2.1,h.block _ ?_,fun b hb=>h.block b (nW b (hg.lt k b hb).1),fun _=>hl,a0D.of (h.block _ (Ne.symm hZ.WA)),a0t.of (h.block _ (Ne.symm hZ.WC)),fun n _=>ConcN.cell_of_block (h.block _ (Ne.symm hZ.WC)) n⟩;rcases hg.bxl k with he|⟨_,h1,_⟩
 ·exact(hZ.eld _ he).2.1
 ·exact nW _ h1
theorem a8S:R0 Z x w w':=by
 refine⟨Nat.le_of_eq h.size.symm,fun b hb=>h.block b (hZ.eld b hb).2.1,fun b hb=>h.block b ?_,fun _=>hl,fun b hb=>h.block b (hZ.sh b hb).2.1⟩;have:=(hg.xl b hb).1;have:=hZ.W0;omega
theorem c0d:Geo Z j w' O bx x:=by
 have e:=h.size;exact⟨by rw[e];exact hg.size,fun i b hb=>by rw[e];exact hg.lt i b hb,hg.dj,hg.out,hg.nb,hg.cur,fun k=>by rw[e];exact hg.bxl k,fun b hb=>by rw[e];exact hg.xl b hb⟩
end
theorem c4F{g:Nat}{fn:FuncId}{pos:String}(hes:∀e∈es,Bk Z.Wg e){Own Rd:Nat->Loc->Prop}(hg:g=Z.c+i):∀op∈MemOp.ofEvents g fn pos es,OkW Z.c (Shp Z) Own Rd i op:=by
 intro op hop;obtain⟨e,he,rfl⟩:=Go.Conc.mem_ofEvents hop;refine⟨hg,fun y hy=>?_⟩;rcases hes e he with h1|h1|⟨a,wr,rfl,hb⟩
 ·rw[Go.ConcR.ofEvent_loc_mark h1] at hy;cases hy
 ·rw[Go.ConcR.ofEvent_loc_mark h1] at hy;cases hy
 ·rw[Go.ConcR.ofEvent_cell] at hy;simp only[MemAct.touch?,Option.some.injEq] at hy;subst hy;exact .inl ⟨.inl hb,by simp,by simp⟩
theorem c4G{fn:FuncId}{pos:String}(hes:∀e∈es,Bk Z.Wg e){Own Rd:Nat->Loc->Prop}:∀op∈MemOp.ofEvents 0 fn pos es,Ok0 (Shp Z) (a6z Z) Own Rd j op:=by
 intro op hop;obtain⟨e,he,rfl⟩:=Go.Conc.mem_ofEvents hop;refine⟨rfl,fun y hy=>?_⟩;rcases hes e he with h1|h1|⟨a,wr,rfl,hb⟩
 ·rw[Go.ConcR.ofEvent_loc_mark h1] at hy;cases hy
 ·rw[Go.ConcR.ofEvent_loc_mark h1] at hy;cases hy
 ·rw[Go.ConcR.ofEvent_cell] at hy;simp only[MemAct.touch?,Option.some.injEq] at hy;subst hy;exact .inl ⟨.inl hb,by simp⟩
section
variable(hZ:a0f Z)(hg:Geo Z j w O bx x)(h:D0 Z x x' w w' es)
include hZ hg h
theorem a06{b:Nat}(hb:b<Z.L0):w'.heap[b]?=w.heap[b]?:=
 h.old b (by have:=hg.size;omega) fun e=>by have:=(hg.xl b e).1;omega
theorem b4y(k:Nat):RW Z k (bx k) (O k) w w':=by
 have el:∀b,Z.Eld b->w'.heap[b]?=w.heap[b]?:=fun b hb=>a06 hZ hg h (hZ.eld b hb).1;refine⟨h.size,el,?_,fun b hb=>h.old b (hg.lt k b hb).2 (hg.cur k b hb),a2T (a06 hZ hg h hZ.W0),a0D.of (a06 hZ hg h hZ.A0),a0t.of (a06 hZ hg h hZ.C0),fun n _=>ConcN.cell_of_block (a06 hZ hg h hZ.C0) n⟩;rcases hg.bxl k with he|⟨_,h1,h2⟩
 ·exact el _ he
 ·exact h.old _ h2 fun e=>(hg.xl _ e).2.2 k rfl
theorem c0e:Geo Z j w' O bx x':=by
 have hsz:=h.size;have hbx:∀k,bx k<w.heap.size:=fun k=>by
  rcases hg.bxl k with he|⟨_,_,h2⟩
  ·have:=(hZ.eld _ he).1;have:=hg.size;omega
  ·exact h2
 refine⟨Nat.le_trans hg.size h.size,fun k b hb=>⟨(hg.lt k b hb).1,by have:=(hg.lt k b hb).2;omega⟩,hg.dj,hg.out,hg.nb,fun k b hb=>?_,fun k=>(hg.bxl k).imp id fun y=>⟨y.1,y.2.1,by omega⟩,fun b hb=>?_⟩
 ·rcases h.cur with e|e|⟨n,e,h1,h2⟩
  ·rw[e];exact hg.cur k b hb
  ·rw[e];simp
  ·rw[e];intro e';have:=(hg.lt k b hb).2;injection e' with e';omega
 ·rcases h.cur with e|e|⟨n,e,h1,h2⟩
  ·rw[e] at hb;exact⟨(hg.xl b hb).1,by have:=(hg.xl b hb).2.1;omega,(hg.xl b hb).2.2⟩
  ·rw[e] at hb;cases hb
  ·rw[e] at hb;injection hb with hb;subst hb;exact⟨Nat.le_trans hg.size h1,h2,fun k e'=>by have:=hbx k;omega⟩
theorem c6c{fn:FuncId}{pos:String}:∀op∈MemOp.ofEvents 0 fn pos es,Ok0 (Shp Z) (a6z Z) (a8Q Z O) (Rdp Z bx) j op:=by
 have hg':=c0e hZ hg h;intro op hop;obtain⟨e,he,rfl⟩:=Go.Conc.mem_ofEvents hop;refine⟨rfl,fun y hy=>?_⟩;have hev:=h.ev e he;obtain⟨loc,wr,sy⟩:=e;unfold Ev0 at hev
 cases loc with
 | cell a=>
  rw[show MemAct.ofEvent ⟨.cell a,wr,sy⟩=.access ⟨.cell a,wr,sy⟩ from rfl] at hy;simp only[MemAct.touch?,Option.some.injEq] at hy;subst hy;obtain⟨_,_,⟨h1,h2⟩|h1⟩:=hev
  ·obtain⟨a1,a2,a3,a4,a5⟩:=hZ.eld _ h1;refine .inr ⟨fun hs=>hs.elim a2 a3,fun ho=>ho.elim a5 (by simp[Loc.isMemory]),fun k _ hk=>?_,fun hw=>by dsimp only at hw h2;rw[h2] at hw;cases hw⟩;rcases hk with hk|⟨hk,_⟩
   ·have:=(hg.lt k _ hk).1;omega
   ·exact a4 hk
  ·obtain⟨b1,b2,b3⟩:=hg'.xl _ h1;refine .inr ⟨fun hs=>?_,fun ho=>?_,fun k _ hk=>?_,fun _ k _ hk=>?_⟩
   ·have:=hZ.W0;have:=hZ.A0;rcases hs with hs|hs<;>omega
   ·rcases ho with ho|ho
    ·have:=(hZ.sh _ ho).1;omega
    ·simp[Loc.isMemory] at ho
   ·rcases hk with hk|⟨hk,_⟩
    ·exact hg'.cur k _ hk h1
    ·have:=hZ.C0;omega
   ·rcases hk with hk|hk
    ·have:=(hZ.eld _ hk).1;omega
    ·exact b3 k hk.symm
 | obj r=>
  dsimp only at hev;obtain⟨_,h1,h2,h3⟩:=hev;subst h1;subst h3;simp only[MemAct.ofEvent,MemAct.touch?,Option.some.injEq] at hy;subst hy;obtain⟨a1,a2,a3,a4,a5⟩:=hZ.eld _ h2
  exact .inr ⟨fun hs=>hs,fun ho=>ho.elim a5 (by simp[Loc.isMemory]),fun k _ hk=>by have:=(hg.lt k _ hk).1;omega,fun hw=>by cases hw⟩
 | mark m=>
  dsimp only at hev;rcases hev with hev|⟨a,hm,hb⟩
  ·cases m<;>first|exact(hev:False).elim|(simp only[MemAct.ofEvent,MemAct.touch?] at hy;cases hy)
  ·rcases hm with rfl|rfl<;>(simp only[MemAct.ofEvent,MemAct.touch?,Option.some.injEq] at hy;subst hy;exact .inl ⟨.inl hb,by simp⟩)
 | _=>exact(hev:False).elim
end
end
section
open Go.Conc
open Go.ConcR (KK wgBlock WgAt stA smA rd wr mk DC0 Bk g_of_ofEvents)
open Go.ConcN (WgLive ShN WD CTag sumTo upd upd_same upd_ne cnt Vc Ssum pend isOpen isW3 isFin phi phi_mono phi_retag norel_of Deaf_absent get_map_set get_map_set_same sumTo_upd sumTo_congr)
variable[Go.ConcR.Payload](Z:Pz)(Cont AnchW:Goroutine->World->Prop)(t0:Trace)(B0:Nat)(w0:World)
structure Com(j:Nat)(gs:Array Goroutine)(w:World)(t:Trace)(D:Nat->WD)(O:Nat->Nat->Prop)(bx:Nat->Nat)(T:Nat->Tr)(q:Nat->Nat)(d0:Nat)(x:Option Nat):Prop where
 size:gs.size=Z.c+j
 old:∀i g,0<i->i<Z.c->gs[i]?=some g->QuitsD Z.P (q i) (Deaf t i) g
 wk:∀i,i<j->∃g,gs[Z.c+i]?=some g/\WS Z i (bx i) (O i) (D i).stage (T i) (D i).deaf g w
 geo:Geo Z j w O bx x
 ct:CT Z.c (Shp Z) (a6z Z) (a8Q Z O) (Rdp Z bx) t j
 norel:NoRelease (stA Z.Wg) t
 deaf0:Deaf t 0=d0
 deafW:∀i,i<j->Deaf t (Z.c+i)=(D i).deaf
 rel:∀i,i<j->(D i).stage<=6->∃r,Rel Z.Wg t (Z.c+i) r
 elder:∀b,Z.Eld b\/Z.ShB b->w.heap[b]?=w0.heap[b]?
 al:a0D Z w
 cb:a0t Z w
 low:∀op∈t,op.act.low w.heap.size
 sfx:∃u,t=t0++u/\∀op∈u,op.g=0\/op.act.touch?=none\/∃i,i<j/\op.g=Z.c+i
 env:w.tape=w0.tape/\w.os=w0.os/\w.output=w0.output
def eOf:CTag->Nat
 | .w3=>1
 | _=>0
def Inv(μ:Mu)(m:Machine)(t:Trace):Prop:=
 ∃(gs:Array Goroutine)(w:World)(sl:Option (Nat×Nat))(j:Nat)(D:Nat->WD)(O:Nat->Nat->Prop)(bx:Nat->Nat)(T:Nat->Tr)(q:Nat->Nat)(tag:CTag)(T0:Tr)(d0:Nat)(x:Option Nat)(a:Goroutine)(st sm:Int),
  m=crowd gs w sl/\gs[0]?=some a/\CS Z Cont AnchW tag j T0 d0 x a w/\Com Z t0 w0 j gs w t D O bx T q d0 x/\WgAt Z.ty Z.Wg w st sm/\ConcN.Mode j D tag st sm/\
  μ = ⟨phi Z.n (Vc j D) tag+Ssum j D+sumTo Z.c q,T,T0,eOf tag⟩
variable{Z Cont AnchW t0 w0}
variable{gs:Array Goroutine}{w w':World}{sl:Option (Nat×Nat)}{j:Nat}{t:Trace}{D:Nat->WD}{O:Nat->Nat->Prop}{bx:Nat->Nat}{T:Nat->Tr}{q:Nat->Nat}{tag:CTag}{T0:Tr}{d0:Nat}{x:Option Nat}{a:Goroutine}{st sm:Int}
theorem CS.bound(h:CS Z Cont AnchW tag j T0 d0 x a w):j+pend tag<=Z.n:=by
 cases h<;>simp only[pend]<;>(try simp)<;>omega
theorem a5G{B B':Nat}{t v:Trace}(h:∀op∈t,op.act.low B)(hB:B<=B')(hv:∀op∈v,op.act.low B'):∀op∈t++v,op.act.low B':=
 fun op hop=>(Array.mem_append.1 hop).elim (fun x=>MemAct.low_mono hB (h op x)) (hv op)
theorem b4z{B g:Nat}{fn:FuncId}{pos:String}{es:Array Event}(h:∀e∈es,(MemAct.ofEvent e).low B):∀op∈MemOp.ofEvents g fn pos es,op.act.low B:=fun op hop=>by
 obtain⟨e,he,rfl⟩:=Go.Conc.mem_ofEvents hop;exact h e he
theorem workerStep(hZ:a0f Z)(hAr:∀g w,AnchW g w->g.status=.running)
 (ha:gs[0]?=some a)(hcs:CS Z Cont AnchW tag j T0 d0 x a w)(hcom:Com Z t0 w0 j gs w t D O bx T q d0 x)
 {i:Nat}(hi:i<j){g g':Goroutine}{es:Array Event}{s' dd':Nat}{T':Tr}{O':Nat->Prop}{st' sm':Int}(hg:gs[Z.c+i]?=some g)(hgo:stepG Z.P false g w=.go g' w' es)
 (hR0:R0 Z x w w')(hRW:∀k,k<j->k≠i->RW Z k (bx k) (O k) w w')(hgeo:Geo Z j w' (upd O i O') bx x)
 (hct:CT Z.c (Shp Z) (a6z Z) (a8Q Z (upd O i O')) (Rdp Z bx) (t++MemOp.ofEvents (Z.c+i) g.frame.fn g.frame.place es) j)
 (hs':WS Z i (bx i) O' s' T' dd' g' w')(hnr:∀e∈es,e.loc≠.mark (.release (stA Z.Wg)))(hdeaf:deafBehind (D i).deaf es=dd')
 (hrel:s'<=6->∃r,Rel Z.Wg (t++MemOp.ofEvents (Z.c+i) g.frame.fn g.frame.place es) (Z.c+i) r)
 (hal:a0D Z w')(hcb:a0t Z w')(hlow:∀e∈es,(MemAct.ofEvent e).low w'.heap.size)(henv:w'.tape=w.tape/\w'.os=w.os/\w'.output=w.output)(hwg:WgAt Z.ty Z.Wg w' st' sm')
 (hmode:∀tag',(tag'=tag\/(tag=.blk/\tag'=.w3))->(mayWake Z.P g=true->g'.status=.running->tag'≠.blk)->ConcN.Mode j (upd D i ⟨s',0,dd'⟩) tag' st' sm')
 (hlt:(s'<(D i).stage/\cnt ⟨s',0,dd'⟩<=cnt (D i))\/(s'=(D i).stage/\a3q T' (T i))):
 ∃m₁ ops μ',runT Z.P (crowd gs w sl) (Z.c+i)=(.next m₁,ops)/\a3O Z.n μ' ⟨phi Z.n (Vc j D) tag+Ssum j D+sumTo Z.c q,T,T0,eOf tag⟩/\Inv Z Cont AnchW t0 w0 μ' m₁ (t++ops):=by
 obtain⟨tag',T0',hcs',htag,hwk⟩:=hcs.wokenBy hAr hR0 g g';have hc:=hZ.c;have h0:(Z.c+i==0)=false:=by simp;omega
 have hrun:=runT_crowd_go (P:=Z.P) (sl:=sl) (i:=Z.c+i) hg (by rw[h0];exact hgo);have e1:=sumTo_upd D (⟨s',0,dd'⟩:WD) cnt hi;have e2:=sumTo_upd D (⟨s',0,dd'⟩:WD) WD.stage hi;have hbd:=hcs.bound;have hgs:Z.c+i<gs.size:=by rw[hcom.size];omega
 refine⟨_,_,⟨phi Z.n (Vc j (upd D i ⟨s',0,dd'⟩)) tag'+Ssum j (upd D i ⟨s',0,dd'⟩)+sumTo Z.c q,upd T i T',T0',eOf tag'⟩,hrun,?_,
  _,w',sl,j,upd D i ⟨s',0,dd'⟩,upd O i O',bx,upd T i T',q,tag',T0',d0,x,woken Z.P g g' w' a,st',sm',rfl,by rw[get_map_set _ _ _ _ (by omega),ha];rfl,hcs',?_,hwg,hmode tag' htag hwk,rfl⟩
 ·simp only[Vc,Ssum] at *;rcases hlt with⟨h1,h2⟩|⟨h1,h2⟩
  ·refine .stage _ _ ?_;dsimp only;rw[phi_retag Z.n _ htag];have:=phi_mono Z.n (v':=sumTo j fun a=>cnt (upd D i ⟨s',0,dd'⟩ a)) (v:=sumTo j fun a=>cnt (D a)) (by omega) tag;omega
  ·have ec:cnt (⟨s',0,dd'⟩:WD)=cnt (D i):=by simp only[cnt,h1]
   have ev:(sumTo j fun a=>cnt (upd D i ⟨s',0,dd'⟩ a))=sumTo j fun a=>cnt (D a):=by omega
   have es':(sumTo j fun a=>(upd D i ⟨s',0,dd'⟩ a).stage)=sumTo j fun a=>(D a).stage:=by omega
   refine .worker _ _ ?_ ⟨i,by omega,by dsimp only;rw[upd_same];exact h2,fun k hk=>upd_ne T _ hk⟩;dsimp only;rw[phi_retag Z.n _ htag,ev,es']
 ·refine⟨by simp[hcom.size],fun k y hk hkc hy=>?_,fun k hk=>?_,hgeo,hct,hcom.norel.app (norel_of hnr),by rw[Deaf_other _ (by omega) _ g_of_ofEvents,hcom.deaf0],fun k hk=>?_,fun k hk hst=>?_,fun b hb=>(hb.elim (hR0.eld b) (hR0.shb b)).trans (hcom.elder b hb),hal,hcb,a5G hcom.low hR0.size (b4z hlow),?_,⟨henv.1.trans hcom.env.1,henv.2.1.trans hcom.env.2.1,henv.2.2.trans hcom.env.2.2⟩⟩
  ·rw[get_map_set _ _ _ _ (by omega)] at hy;obtain⟨z,hz,rfl⟩:=Option.map_eq_some_iff.1 hy;have hq:=hcom.old k z hk hkc hz;rw[woken_quitsD hq,Deaf_other _ (by omega) _ g_of_ofEvents];exact hq
  ·by_cases e:k=i
   ·subst e;exact⟨g',get_map_set_same _ _ _ hgs,by rw[upd_same,upd_same,upd_same];exact hs'⟩
   ·obtain⟨y,hy,hsy⟩:=hcom.wk k hk;refine⟨y,by rw[get_map_set _ _ _ _ (by omega),hy,Option.map_some,hsy.woken],?_⟩;rw[upd_ne D _ e,upd_ne T _ e,upd_ne O _ e];exact hsy.rely hZ (hRW k hk e)
  ·by_cases e:k=i
   ·subst e;rw[Deaf_own,hcom.deafW k hk,upd_same];exact hdeaf
   ·rw[Deaf_other _ (by omega) _ g_of_ofEvents,hcom.deafW k hk,upd_ne D _ e]
  ·by_cases e:k=i
   ·subst e;rw[upd_same] at hst;exact hrel hst
   ·rw[upd_ne D _ e] at hst;obtain⟨r,hr⟩:=hcom.rel k hk hst;exact⟨r,hr.appNot fun op hop=>by rw[g_of_ofEvents op hop];omega⟩
  ·obtain⟨u,rfl,hu⟩:=hcom.sfx;refine⟨u++MemOp.ofEvents (Z.c+i) g.frame.fn g.frame.place es,Array.append_assoc,fun op hop=>?_⟩;rcases Array.mem_append.1 hop with h|h
   ·exact hu op h
   ·exact .inr (.inr ⟨i,hi,g_of_ofEvents op h⟩)
theorem callerStep(hZ:a0f Z)(ha:gs[0]?=some a)(hcom:Com Z t0 w0 j gs w t D O bx T q d0 x)
 {a':Goroutine}{es:Array Event}{tag':CTag}{T0':Tr}{x':Option Nat}{st' sm':Int}(hgo:stepG Z.P true a w=.go a' w' es)
 (hRW:∀k,k<j->RW Z k (bx k) (O k) w w')(hel:∀b,Z.Eld b\/Z.ShB b->w'.heap[b]?=w.heap[b]?)(hsz:w.heap.size<=w'.heap.size)(hgeo:Geo Z j w' O bx x')
 (hok:∀op∈MemOp.ofEvents 0 a.frame.fn a.frame.place es,Ok0 (Shp Z) (a6z Z) (a8Q Z O) (Rdp Z bx) j op)(hnr:∀e∈es,e.loc≠.mark (.release (stA Z.Wg)))
 (hal:a0D Z w')(hcb:a0t Z w')(hlow:∀e∈es,(MemAct.ofEvent e).low w'.heap.size)(henv:w'.tape=w.tape/\w'.os=w.os/\w'.output=w.output)
 (hcs':CS Z Cont AnchW tag' j T0' (deafBehind d0 es) x' a' w')(hwg:WgAt Z.ty Z.Wg w' st' sm')(hmode:ConcN.Mode j D tag' st' sm')
 (hlt:phi Z.n (Vc j D) tag'<phi Z.n (Vc j D) tag\/(phi Z.n (Vc j D) tag'=phi Z.n (Vc j D) tag/\(a3q T0' T0\/(T0'=T0/\eOf tag'<eOf tag)))):
 ∃m₁ ops μ',runT Z.P (crowd gs w sl) 0=(.next m₁,ops)/\a3O Z.n μ' ⟨phi Z.n (Vc j D) tag+Ssum j D+sumTo Z.c q,T,T0,eOf tag⟩/\Inv Z Cont AnchW t0 w0 μ' m₁ (t++ops):=by
 have hrun:=runT_crowd_go (P:=Z.P) (sl:=sl) (i:=0) ha (by simpa using hgo);have hc:=hZ.c;refine⟨_,_,⟨phi Z.n (Vc j D) tag'+Ssum j D+sumTo Z.c q,T,T0',eOf tag'⟩,hrun,?_,
  _,w',sl,j,D,O,bx,T,q,tag',T0',deafBehind d0 es,x',a',st',sm',rfl,get_map_set_same _ _ _ (by rw[hcom.size];omega),hcs',?_,hwg,hmode,rfl⟩
 ·rcases hlt with h|⟨h1,h2|⟨h2,h3⟩⟩
  ·exact .stage _ _ (by dsimp only;omega)
  ·exact .starter _ _ (by dsimp only;rw[h1]) rfl h2
  ·exact .blocks _ _ (by dsimp only;rw[h1]) rfl h2 h3
 ·refine⟨by simp[hcom.size],fun k y hk hkc hy=>?_,fun k hk=>?_,hgeo,hcom.ct.app0 hc (hcom.geo.apart hZ) hok,hcom.norel.app (norel_of hnr),by rw[Deaf_own,hcom.deaf0],fun k hk=>by rw[Deaf_other _ (by omega) _ g_of_ofEvents,hcom.deafW k hk],fun k hk hst=>?_,fun b hb=>(hel b hb).trans (hcom.elder b hb),hal,hcb,a5G hcom.low hsz (b4z hlow),?_,⟨henv.1.trans hcom.env.1,henv.2.1.trans hcom.env.2.1,henv.2.2.trans hcom.env.2.2⟩⟩
  ·rw[get_map_set _ _ _ _ (by omega)] at hy;obtain⟨z,hz,rfl⟩:=Option.map_eq_some_iff.1 hy;have hq:=hcom.old k z hk hkc hz;rw[woken_quitsD hq,Deaf_other _ (by omega) _ g_of_ofEvents];exact hq
  ·obtain⟨y,hy,hsy⟩:=hcom.wk k hk;exact⟨y,by rw[get_map_set _ _ _ _ (by omega),hy,Option.map_some,hsy.woken],hsy.rely hZ (hRW k hk)⟩
  ·obtain⟨r,hr⟩:=hcom.rel k hk hst;exact⟨r,hr.appNot fun op hop=>by rw[g_of_ofEvents op hop];omega⟩
  ·obtain⟨u,rfl,hu⟩:=hcom.sfx;refine⟨u++MemOp.ofEvents 0 a.frame.fn a.frame.place es,Array.append_assoc,fun op hop=>?_⟩;rcases Array.mem_append.1 hop with h|h
   ·exact hu op h
   ·exact .inl (g_of_ofEvents op h)
theorem b4A(hZ:a0f Z)(hAr:∀g w,AnchW g w->g.status=.running)(ha:gs[0]?=some a)(hcs:CS Z Cont AnchW tag j T0 d0 x a w)(hcom:Com Z t0 w0 j gs w t D O bx T q d0 x)(hwg:WgAt Z.ty Z.Wg w st sm)(hmode:ConcN.Mode j D tag st sm)
 (hgeoS:R0 Z x w w){i:Nat}(h0:0<i)(hi:i<Z.c){g:Goroutine}(hg:gs[i]?=some g)(hrun:g.status=.running):
 ∃m₁ ops μ',runT Z.P (crowd gs w sl) i=(.next m₁,ops)/\a3O Z.n μ' ⟨phi Z.n (Vc j D) tag+Ssum j D+sumTo Z.c q,T,T0,eOf tag⟩/\Inv Z Cont AnchW t0 w0 μ' m₁ (t++ops):=by
 have hq:=hcom.old i g h0 hi hg
 cases hqi:q i with
 | zero=>rw[hqi] at hq;rw[hq.1] at hrun;cases hrun
 | succ k=>
  rw[hqi] at hq;rcases hq with⟨hf,_⟩|⟨_,g',es,hm,hstp,hq'⟩
  ·rw[hf] at hrun;cases hrun
  have hi0:(i==0)=false:=by simp;omega
  have hrunT:=runT_crowd_go (P:=Z.P) (sl:=sl) (i:=i) hg (by rw[hi0];exact hstp w);have hlt:i<gs.size:=(Array.getElem?_eq_some_iff.1 hg).1;have hsum:sumTo Z.c (upd q i k)+(k+1)=sumTo Z.c q+k:=by
   have:=sumTo_upd q k id hi;simpa [hqi] using this
  obtain⟨tag',T0',hcs',htag,_⟩:=hcs.wokenBy hAr hgeoS g g';have htouch:∀op∈MemOp.ofEvents i g.frame.fn g.frame.place es,op.act.touch?=none:=fun op hop=>by
   obtain⟨e,he,rfl⟩:=Go.Conc.mem_ofEvents hop;exact touch_mute (hm e he)
  refine⟨_,_,⟨phi Z.n (Vc j D) tag'+Ssum j D+sumTo Z.c (upd q i k),T,T0',eOf tag'⟩,hrunT,.stage _ _ (by dsimp only;rw[phi_retag Z.n _ htag];omega),
   _,w,sl,j,D,O,bx,T,upd q i k,tag',T0',d0,x,woken Z.P g g' w a,st,sm,rfl,by rw[get_map_set _ _ _ _ (by omega),ha];rfl,hcs',?_,hwg,hmode.retag htag,rfl⟩
  refine⟨by simp[hcom.size],fun m y hk hkc hy=>?_,fun m hk=>?_,hcom.geo,hcom.ct.appMute (by omega) g_of_ofEvents htouch,hcom.norel.app (norel_of fun e he hl=>?_),by rw[Deaf_other _ (by omega) _ g_of_ofEvents,hcom.deaf0],fun m hk=>by rw[Deaf_other _ (by omega) _ g_of_ofEvents,hcom.deafW m hk],fun m hk hst=>?_,hcom.elder,hcom.al,hcom.cb,a5G hcom.low (Nat.le_refl _) (b4z fun e he=>low_mute (hm e he) _),?_,hcom.env⟩
  ·by_cases e:m=i
   ·subst e;rw[get_map_set_same _ _ _ hlt] at hy;obtain rfl:=Option.some.inj hy;rw[upd_same,Deaf_own];exact hq'
   ·rw[get_map_set _ _ _ _ (Ne.symm e)] at hy;obtain⟨z,hz,rfl⟩:=Option.map_eq_some_iff.1 hy;have hq:=hcom.old m z hk hkc hz;rw[woken_quitsD hq,upd_ne q k e,Deaf_other _ (by omega) _ g_of_ofEvents];exact hq
  ·obtain⟨y,hy,hsy⟩:=hcom.wk m hk;exact⟨y,by rw[get_map_set _ _ _ _ (by omega),hy,Option.map_some,hsy.woken],hsy⟩
  ·have:=hm e he;rw[show e=⟨.mark (.release (stA Z.Wg)),e.write,e.sync⟩ by rw[<-hl]] at this;cases this
  ·obtain⟨r,hr⟩:=hcom.rel m hk hst;exact⟨r,hr.appNot fun op hop=>by rw[g_of_ofEvents op hop];omega⟩
  ·obtain⟨u,rfl,hu⟩:=hcom.sfx;refine⟨u++MemOp.ofEvents i g.frame.fn g.frame.place es,Array.append_assoc,fun op hop=>?_⟩;rcases Array.mem_append.1 hop with h|h
   ·exact hu op h
   ·exact .inr (.inl (htouch op h))
end
section
open Go.Conc
open Go.ConcR (KK wgBlock WgAt stA smA rd wr mk DC0 Bk g_of_ofEvents bk_of_mute ofEvent_loc_mark)
open Go.ConcN (WgLive ShN WD CTag sumTo upd upd_same upd_ne cnt Vc Ssum pend isOpen isW3 isFin phi deafBehind_idle bk_cell Vc_upd OpenSt AllQuit others_uncounted Vc_le le_sumTo)
variable[Go.ConcR.Payload]{Z:Pz}{Cont AnchW:Goroutine->World->Prop}{t0:Trace}{w0:World}
variable{gs:Array Goroutine}{w w':World}{sl:Option (Nat×Nat)}{j:Nat}{t:Trace}{D:Nat->WD}{O:Nat->Nat->Prop}{bx:Nat->Nat}{T:Nat->Tr}{q:Nat->Nat}{tag:CTag}{T0:Tr}{d0:Nat}{x:Option Nat}{a:Goroutine}{st sm:Int}
theorem c0f{es:Array Event}(hZ:a0f Z){B:Nat}(hB:Z.L0<=B)(hes:∀e∈es,Bk Z.Wg e):∀e∈es,(MemAct.ofEvent e).low B:=fun e he=>by
 rcases hes e he with h1|h1|⟨a,wr,rfl,hb⟩
 ·rw[ofEvent_loc_mark h1];trivial
 ·rw[ofEvent_loc_mark h1];trivial
 ·rw[Go.ConcR.ofEvent_cell];show a.block<B;have:=hZ.W0;omega
theorem c2K{i b:Nat}{O':Nat->Prop}{B:Nat}{es:Array Event}(hes:∀e∈es,EvW Z i b O' B e):∀e∈es,(MemAct.ofEvent e).low B:=fun e he=>by
 have h:=hes e he;obtain⟨loc,wr,sy⟩:=e;unfold EvW at h
 cases loc with
 | cell a=>exact h.1
 | obj r=>
  obtain⟨h1,h2,_⟩:=h;dsimp only at h2;subst h2
  cases wr<;>exact h1
 | mark m=>cases m<;>first|exact(h:False).elim|trivial
 | _=>exact(h:False).elim
theorem c0g{i b:Nat}{O':Nat->Prop}{B:Nat}{es:Array Event}(hes:∀e∈es,EvW Z i b O' B e):∀e∈es,e.loc≠.mark .disable/\e.loc≠.mark .enable/\e.loc≠.mark (.release (stA Z.Wg)):=fun e he=>by
 have h:=hes e he;obtain⟨loc,wr,sy⟩:=e;unfold EvW at h
 cases loc with
 | mark m=>cases m<;>first|exact(h:False).elim|(refine⟨?_,?_,?_⟩<;>simp)
 | cell a=>exact⟨by simp,by simp,by simp⟩
 | obj r=>exact⟨by simp,by simp,by simp⟩
 | _=>exact(h:False).elim
theorem c0h{α:Type}(f:Nat->α)(i:Nat):upd f i (f i)=f:=by
 funext k
 by_cases e:k=i
 ·subst e;rw[upd_same]
 ·rw[upd_ne f _ e]
theorem a6B{i:Nat}(hm:ConcN.Mode j D tag st sm)(dd':Nat):ConcN.Mode j (upd D i ⟨(D i).stage,0,dd'⟩) tag st sm:=hm.same 0 dd'
theorem stepWorker(hZ:a0f Z)(hAr:∀g w,AnchW g w->g.status=.running)(hn:Z.n<2147483648)
 (ha:gs[0]?=some a)(hcs:CS Z Cont AnchW tag j T0 d0 x a w)(hcom:Com Z t0 w0 j gs w t D O bx T q d0 x)(hwg:WgAt Z.ty Z.Wg w st sm)(hmode:ConcN.Mode j D tag st sm)
 {i:Nat}(hi:i<j){g:Goroutine}(hg:gs[Z.c+i]?=some g)(hrun:g.status=.running):
 ∃m₁ ops μ',runT Z.P (crowd gs w sl) (Z.c+i)=(.next m₁,ops)/\a3O Z.n μ' ⟨phi Z.n (Vc j D) tag+Ssum j D+sumTo Z.c q,T,T0,eOf tag⟩/\Inv Z Cont AnchW t0 w0 μ' m₁ (t++ops):=by
 obtain⟨g₁,hg₁,hs⟩:=hcom.wk i hi;obtain rfl:g=g₁:=by rw[hg] at hg₁;exact Option.some.inj hg₁
 generalize hst:(D i).stage=s at hs;generalize hTT:T i=Ti at hs;generalize hde:(D i).deaf=dd at hs;have hb:=hcs.bound;have hVj:=Vc_le j D;have hc:=hZ.c;have hdk:Deaf t (Z.c+i)=dd:=by rw[hcom.deafW i hi,hde]
 have eO:upd O i (O i)=O:=c0h O i;have bookG:∀{g':Goroutine}{w':World}{es:Array Event}{s' dd' m':Nat}{st' sm':Int},stepG Z.P false g w=.go g' w' es->Aside Z.Wg w w'->WgAt Z.ty Z.Wg w' st' sm'->(∀e∈es,Bk Z.Wg e)->
  (∀jx e,es[jx]?=some e->(MemAct.ofEvent e).touch?=none\/0<deafBehind dd (es.extract 0 jx))->WS Z i (bx i) (O i) s' (trN m') dd' g' w'->deafBehind dd es=dd'->s<=6->
  (∀tag',(tag'=tag\/(tag=.blk/\tag'=.w3))->(mayWake Z.P g=true->g'.status=.running->tag'≠.blk)->ConcN.Mode j (upd D i ⟨s',0,dd'⟩) tag' st' sm')->((s'<s/\cnt ⟨s',0,dd'⟩<=cnt (D i))\/(s'=s/\a3q (trN m') Ti))->
  ∃m₁ ops μ',runT Z.P (crowd gs w sl) (Z.c+i)=(.next m₁,ops)/\a3O Z.n μ' ⟨phi Z.n (Vc j D) tag+Ssum j D+sumTo Z.c q,T,T0,eOf tag⟩/\Inv Z Cont AnchW t0 w0 μ' m₁ (t++ops):=by
  intro g' w' es s' dd' m' st' sm' hgo hAs hwg' hbk hd hs' hdd h6 hmode' hlt;have hl:WgLive Z.ty Z.Wg w':=⟨_,_,hwg'⟩;refine workerStep (O':=O i) hZ hAr ha hcs hcom hi hg hgo (a8S hZ hcom.geo hAs hl) (fun k _ _=>a6A hZ hcom.geo hAs hl k) (by rw[eO];exact c0d hZ hcom.geo hAs hl) (by rw[eO];exact hcom.ct.appW (hcom.geo.apart hZ) hi (c4F hbk rfl)) hs' (ConcN.norel_of_Bk hbk) (by rw[hde];exact hdd)
   (fun _=>let ⟨r,hr⟩:=hcom.rel i hi (by omega);⟨r,hr.book hdk _ _ hbk hd⟩) (a0D.of (hAs.block _ (Ne.symm hZ.WA)) hcom.al) (a0t.of (hAs.block _ (Ne.symm hZ.WC)) hcom.cb) (c0f hZ (by rw[hAs.size];exact hcom.geo.size) hbk) ⟨hAs.tape,hAs.os,hAs.output⟩ hwg' hmode'
   (by rw[hst,hTT];exact hlt)
 have book:∀{g':Goroutine}{w':World}{es:Array Event}{s' dd' m':Nat}{st' sm':Int},stepG Z.P false g w=.go g' w' es->Aside Z.Wg w w'->WgAt Z.ty Z.Wg w' st' sm'->(∀e∈es,Bk Z.Wg e)->
  (∀jx e,es[jx]?=some e->(MemAct.ofEvent e).touch?=none\/0<deafBehind dd (es.extract 0 jx))->WS Z i (bx i) (O i) s' (trN m') dd' g' w'->deafBehind dd es=dd'->s<=6->
  ConcN.Mode j (upd D i ⟨s',0,dd'⟩) tag st' sm'->((s'<s/\cnt ⟨s',0,dd'⟩<=cnt (D i))\/(s'=s/\a3q (trN m') Ti))->
  ∃m₁ ops μ',runT Z.P (crowd gs w sl) (Z.c+i)=(.next m₁,ops)/\a3O Z.n μ' ⟨phi Z.n (Vc j D) tag+Ssum j D+sumTo Z.c q,T,T0,eOf tag⟩/\Inv Z Cont AnchW t0 w0 μ' m₁ (t++ops):=
  fun hgo hAs hwg' hbk hd hs' hdd h6 hmode' hlt=>bookG hgo hAs hwg' hbk hd hs' hdd h6 (fun _ ht _=>hmode'.retag ht) hlt
 cases hs with
 | work T1 g w h=>
  rcases Wk.cases h with hstop|hstep
  ·
   obtain⟨hR0,hres⟩:=hstop w (RW.refl Z _ _ _ w);obtain⟨_,hhas,g',hgo,m₂,hk⟩:=hR0;have hAs:Aside Z.Wg w w:=.refl _ w;have hl:WgLive Z.ty Z.Wg w:=⟨_,_,hwg⟩;refine workerStep (O':=O i) (s':=6) (T':=trN m₂) hZ hAr ha hcs hcom hi hg hgo (a8S hZ hcom.geo hAs hl) (fun k _ _=>a6A hZ hcom.geo hAs hl k) (by rw[eO];exact hcom.geo) (by rw[eO];exact hcom.ct.appMute (by omega) g_of_ofEvents (fun op hop=>by obtain⟨e,he,rfl⟩:=Go.Conc.mem_ofEvents hop;simp at he;subst he;rfl)) (.rest 6 m₂ 0 g' w (by omega) (.k1 hk) hres)
    (by intro e he;simp at he;subst he;simp[mk]) (by rw[hde];rfl) (fun _=>⟨t.size,Rel.new hdk _ _⟩) hcom.al hcom.cb (by intro e he;simp at he;subst he;show Z.Wg<_;have:=hZ.W0;have:=hcom.geo.size;omega) ⟨rfl,rfl,rfl⟩ hwg (fun _ ht _=>(hmode.counted hi (by omega) (.inl rfl) _ _).retag ht) (.inl ⟨by omega,by simp[cnt,hst]⟩)
  ·obtain⟨T',g',w',es,O',hlt,hgo,hD,hg'⟩:=hstep w (RW.refl Z _ _ _ w);have hmk:=c0g hD.ev;refine workerStep (O':=O') (s':=7) (T':=T') hZ hAr ha hcs hcom hi hg hgo (b4x hZ hcom.geo hD) (fun k _ hk=>b7E hZ hcom.geo hD hk) (c0c hZ hcom.geo hD hi) (c6b hZ hcom.geo hD hi hcom.ct hcom.low _ _) (.work T' g' w' hg') (fun e he=>(hmk e he).2.2)
    (by rw[hde];exact deafBehind_idle (fun e he=>⟨(hmk e he).1,(hmk e he).2.1⟩) 0) (fun h=>by omega) (hD.al hcom.al) (hD.cb hcom.cb) (c2K hD.ev) ⟨hD.tape,hD.os,hD.output⟩ (hwg.of_block (a2U hZ hcom.geo hD hZ.W0 hZ.WA hZ.WC))
    (fun _ ht _=>ConcN.Mode.retag (by have:=a6B (i:=i) hmode 0;rwa [hst] at this) ht) (.inr ⟨hst.symm,by rw[hTT];exact hlt⟩)
 | rest s m d g w h6 h hres=>
  have idle:∀{g':Goroutine}{m':Nat},stepG Z.P false g w=.go g' w #[]->ConcN.WSit Z.P Z.ty Z.Wg Z.e0 Z.n b7C b7C 0 1 Z.v0 s m' dd g' w->m'+1=m->
   ∃m₁ ops μ',runT Z.P (crowd gs w sl) (Z.c+i)=(.next m₁,ops)/\a3O Z.n μ' ⟨phi Z.n (Vc j D) tag+Ssum j D+sumTo Z.c q,T,T0,eOf tag⟩/\Inv Z Cont AnchW t0 w0 μ' m₁ (t++ops):=by
   intro g' m' hgo hs' hm;subst hm;exact book hgo (.refl Z.Wg w) hwg (by simp) (by simp) (.rest s m' dd g' w h6 hs' hres) rfl h6 (by have:=a6B (i:=i) hmode dd;rwa [hst] at this) (.inr ⟨rfl,b99 m'⟩)
  have hbW:bx i≠Z.Wg:=by
   rcases hcom.geo.bxl i with h|⟨_,h,_⟩
   ·exact(hZ.eld _ h).2.1
   ·have:=hZ.W0;omega
  have resSt:∀(v:Value),Z.Res i (bx i) (O i) (w.setCell (stA Z.Wg) v):=fun v=>hZ.res _ _ _ _ _ (Nat.le_of_eq (aside_setCell w (stA Z.Wg) v).size.symm) ((aside_setCell w (stA Z.Wg) v).block _ hbW) (fun b hb=>by
   have:=(hcom.geo.lt i b hb).1;have:=hZ.W0;exact(aside_setCell w (stA Z.Wg) v).block b (by show b≠Z.Wg;omega)) (fun k _=>ConcN.cell_of_block ((aside_setCell w (stA Z.Wg) v).block _ (Ne.symm hZ.WC)) k) hres
  have resSm:∀(v:Value),Z.Res i (bx i) (O i) (w.setCell (smA Z.Wg) v):=fun v=>hZ.res _ _ _ _ _ (Nat.le_of_eq (aside_setCell w (smA Z.Wg) v).size.symm) ((aside_setCell w (smA Z.Wg) v).block _ hbW) (fun b hb=>by
   have:=(hcom.geo.lt i b hb).1;have:=hZ.W0;exact(aside_setCell w (smA Z.Wg) v).block b (by show b≠Z.Wg;omega)) (fun k _=>ConcN.cell_of_block ((aside_setCell w (smA Z.Wg) v).block _ (Ne.symm hZ.WC)) k) hres
  cases h with
  | r0 h=>omega
  | k1 h=>
   rcases Goes.cases h with hstop|⟨m',rfl,hstep⟩
   ·obtain⟨_,g',hgo,m₂,hk⟩:=hstop w (ConcN.RW.refl w);exact book hgo (.refl Z.Wg w) hwg (by intro e he;simp at he;subst he;exact .inl rfl) (by intro jx e he;exact .inl (by have:=Array.mem_of_getElem? he;simp at this;subst this;rfl)) (.rest 5 m₂ 1 g' w (by omega) (.d1 hk) hres) rfl (by omega)
     (hmode.counted hi (by omega) (.inr rfl) _ _) (.inl ⟨by omega,by simp[cnt,hst]⟩)
   ·obtain⟨g',w',es,hgo,⟨rfl,rfl⟩,hg'⟩:=hstep w (ConcN.RW.refl w)
    exact idle hgo (.k1 hg') rfl
  | d1 h=>
   rcases Goes.cases h with hstop|⟨m',rfl,hstep⟩
   ·obtain⟨_,hall⟩:=hstop w (ConcN.RW.refl w);have hc1:cnt (D i)=1:=by simp[cnt,hst]
    have hV1:1<=Vc j D:=by have:=le_sumTo (f:=fun x=>cnt (D x)) hi;simp only[Vc];omega
    have bk2:∀e∈#[rd (stA Z.Wg),wr (stA Z.Wg)],Bk Z.Wg e:=by intro e he;simp at he;rcases he with rfl|rfl<;>exact bk_cell _ _ rfl
    have df2:∀jx e,(#[rd (stA Z.Wg),wr (stA Z.Wg)]:Array Event)[jx]?=some e->(MemAct.ofEvent e).touch?=none\/0<deafBehind 1 ((#[rd (stA Z.Wg),wr (stA Z.Wg)]:Array Event).extract 0 jx):=by
     intro jx e he
     match jx,he with
     | 0,_=>exact .inr (by simp[deafBehind])
     | 1,_=>exact .inr (by simp[deafBehind,rd])
     | jx+2,he=>simp at he
    have hq0:cnt (⟨1,0,1⟩:WD)=0:=rfl;have opq:OpenSt j D->OpenSt j (upd D i ⟨1,0,1⟩):=fun h a ha=>by
     by_cases e:a=i
     ·subst e;rw[upd_same];simp
     ·rw[upd_ne D _ e];exact h a ha
    have hvu:=Vc_upd D (⟨1,0,1⟩:WD) hi
    cases hmode with
    | opn h1 h2 h3=>
     obtain⟨v,hv⟩:∃v,Vc j D+pend tag=v+1:=⟨Vc j D+pend tag - 1,by omega⟩;rw[hv] at hwg;have hw1:WgAt Z.ty Z.Wg w (((v:Nat)+1)*KK+((0:Nat):Int)) 0:=by simpa using hwg
     obtain⟨g',hgo,_,hq⟩:=hall v 0 (by omega) (by omega) hw1;obtain⟨q',hq⟩:=hq (by omega);have hv':Vc j (upd D i ⟨1,0,1⟩)+pend tag=v:=by omega
     refine book hgo (aside_setCell w (stA Z.Wg) _) (hwg.setSt _) bk2 df2 (.rest 1 q' 1 _ _ (by omega) (.quit hq) (resSt _)) rfl (by omega) ?_ (.inl ⟨by omega,by simp[cnt]⟩);have e:((v:Nat):Int)*KK+((0:Nat):Int)=((Vc j (upd D i ⟨1,0,1⟩)+pend tag:Nat):Int)*KK:=by rw[hv'];simp
     rw[e]
     exact .opn h1 (opq h2) (fun vs ev=>by have:=h3 vs ev;omega)
    | reg h1 h2 h3=>
     obtain⟨v,hv⟩:∃v,Vc j D=v+1:=⟨Vc j D - 1,by omega⟩;rw[hv] at hwg;have hp:pend tag=0:=by cases tag<;>first|rfl|exact h1.elim
     have hw1:WgAt Z.ty Z.Wg w (((v:Nat)+1)*KK+((1:Nat):Int)) 0:=by simpa using hwg
     obtain⟨g',hgo,hlast,hq⟩:=hall v 1 (by omega) (by omega) hw1;by_cases hv0:v=0
     ·subst hv0;obtain⟨m₂,hk⟩:=hlast ⟨rfl,rfl⟩;refine book hgo (aside_setCell w (stA Z.Wg) _) (hwg.setSt _) bk2 df2 (.rest 4 m₂ 1 _ _ (by omega) (.d2 hk) (resSt _)) rfl (by omega) ?_ (.inl ⟨by omega,by simp[cnt]⟩);have hoth:∀a,a<j->a≠i->(D a).stage=1:=fun a ha e=>by
       have c0:=others_uncounted hi hv hc1 a ha e;have:=h2 a ha;simp only[cnt] at c0;split at c0<;>omega
      have:=ConcN.Mode.last (j:=j) (D:=upd D i ⟨4,0,1⟩) (tag:=tag) i h1 hi (by rw[upd_same];simp) (fun a ha e=>by rw[upd_ne D _ e];exact hoth a ha e);rw[upd_same] at this;simpa using this
     ·obtain⟨q',hq⟩:=hq (by omega);have hv':Vc j (upd D i ⟨1,0,1⟩)=v:=by omega
      refine book hgo (aside_setCell w (stA Z.Wg) _) (hwg.setSt _) bk2 df2 (.rest 1 q' 1 _ _ (by omega) (.quit hq) (resSt _)) rfl (by omega) ?_ (.inl ⟨by omega,by simp[cnt]⟩);have e:((v:Nat):Int)*KK+((1:Nat):Int)=((Vc j (upd D i ⟨1,0,1⟩):Nat):Int)*KK+1:=by rw[hv'];simp
      rw[e]
      exact .reg h1 (opq h2) (by omega)
    | last L _ h2 h3 h4=>
     by_cases e:i=L
     ·subst e;omega
     ·have:=h4 i hi e;omega
    | sema h2=>have:=h2 i hi;omega
    | fin _ h2=>have:=h2 i hi;omega
   ·obtain⟨g',w',es,hgo,⟨rfl,rfl⟩,hg'⟩:=hstep w (ConcN.RW.refl w)
    exact idle hgo (.d1 hg') rfl
  | d2 h=>
   rcases Goes.cases h with hstop|⟨m',rfl,hstep⟩
   ·obtain⟨_,hx⟩:=hstop w (ConcN.RW.refl w);obtain⟨hW3,hoth,rfl,rfl⟩:=hmode.isLast hi (by omega);simp only[hst] at hwg;obtain⟨g',hgo,m₂,hk⟩:=hx (by simpa using hwg);refine book hgo (.refl Z.Wg w) hwg (by intro e he;simp at he;subst he;exact bk_cell _ _ rfl) (by intro jx e he;match jx,he with|0,_=>exact .inr (by simp[deafBehind])|jx+1,he=>simp at he) (.rest 3 m₂ 1 _ _ (by omega) (.d3 hk) hres) rfl (by omega) ?_ (.inl ⟨by omega,by simp[cnt]⟩);have:=ConcN.Mode.last (j:=j) (D:=upd D i ⟨3,0,1⟩) (tag:=tag) i hW3 hi (by rw[upd_same];simp) (fun a ha e=>by rw[upd_ne D _ e];exact hoth a ha e);rw[upd_same] at this;simpa using this
   ·obtain⟨g',w',es,hgo,⟨rfl,rfl⟩,hg'⟩:=hstep w (ConcN.RW.refl w)
    exact idle hgo (.d2 hg') rfl
  | d3 h=>
   rcases Goes.cases h with hstop|⟨m',rfl,hstep⟩
   ·obtain⟨_,hx⟩:=hstop w (ConcN.RW.refl w);obtain⟨hW3,hoth,rfl,rfl⟩:=hmode.isLast hi (by omega);simp only[hst] at hwg;obtain⟨g',hgo,m₂,hk⟩:=hx (by simpa using hwg);refine book hgo (aside_setCell w (stA Z.Wg) _) (hwg.setSt 0) (by intro e he;simp at he;subst he;exact bk_cell _ _ rfl) (by intro jx e he;match jx,he with|0,_=>exact .inr (by simp[deafBehind])|jx+1,he=>simp at he) (.rest 2 m₂ 1 _ _ (by omega) (.d4 hk) (resSt _)) rfl (by omega) ?_ (.inl ⟨by omega,by simp[cnt]⟩);have:=ConcN.Mode.last (j:=j) (D:=upd D i ⟨2,0,1⟩) (tag:=tag) i hW3 hi (by rw[upd_same];simp) (fun a ha e=>by rw[upd_ne D _ e];exact hoth a ha e);rw[upd_same] at this;simpa using this
   ·obtain⟨g',w',es,hgo,⟨rfl,rfl⟩,hg'⟩:=hstep w (ConcN.RW.refl w)
    exact idle hgo (.d3 hg') rfl
  | d4 h=>
   rcases Goes.cases h with hstop|⟨m',rfl,hstep⟩
   ·obtain⟨_,hmw,hx⟩:=hstop w (ConcN.RW.refl w);obtain⟨hW3,hoth,rfl,rfl⟩:=hmode.isLast hi (by omega);simp only[hst] at hwg;obtain⟨g',hgo,q',hq⟩:=hx (by simpa using hwg);have hrun':g'.status=.running:=by
     cases q' with
     | zero=>exact absurd hq.2 (by decide)
     | succ q'=>exact hq.elim (fun x=>absurd x.2 (by decide)) (fun x=>x.1)
    refine bookG hgo (aside_setCell w (smA Z.Wg) _) (hwg.setSm 1) (es:=semEvents (smA Z.Wg)) ConcN.bk_sem ?_ (.rest 1 q' 1 _ _ (by omega) (.quit hq) (resSm _)) (by simp[deafBehind,semEvents]) (by omega) ?_ (.inl ⟨by omega,by simp[cnt]⟩)
    ·intro jx e he
     match jx,he with
     | 0,he=>simp[semEvents] at he;subst he;exact .inl rfl
     | 1,_=>exact .inr (by simp[deafBehind,semEvents])
     | 2,_=>exact .inr (by simp[deafBehind,semEvents])
     | 3,he=>simp[semEvents] at he;subst he;exact .inl rfl
     | jx+4,he=>simp[semEvents] at he
    ·intro tag' ht hw;have hnb:=hw hmw hrun';have e3:tag'=.w3:=by
      rcases ht with rfl|⟨_,rfl⟩
      ·cases tag'<;>first|rfl|exact hW3.elim|exact absurd rfl hnb
      ·rfl
     subst e3;simp only[if_true];exact .sema fun a ha=>by
      by_cases e:a=i
      ·subst e;rw[upd_same]
      ·rw[upd_ne D _ e];exact hoth a ha e
   ·obtain⟨g',w',es,hgo,⟨rfl,rfl⟩,hg'⟩:=hstep w (ConcN.RW.refl w)
    exact idle hgo (.d4 hg') rfl
  | quit h=>
   cases m with
   | zero=>rw[h.1] at hrun;cases hrun
   | succ q'=>
    rcases h with⟨hf,_⟩|⟨_,g',es,hmute,hstep,hq⟩
    ·rw[hf] at hrun;cases hrun
    ·have hbk:∀e∈es,Bk Z.Wg e:=fun e he=>bk_of_mute (hmute e he);have hno:∀jx e,es[jx]?=some e->(MemAct.ofEvent e).touch?=none\/0<deafBehind dd (es.extract 0 jx):=fun jx e he=>.inl (touch_mute (hmute e (Array.mem_of_getElem? he)));exact book (hstep w) (.refl Z.Wg w) hwg hbk hno (.rest 1 q' _ _ _ (by omega) (.quit hq) hres) rfl (by omega) (by have:=a6B (i:=i) hmode (deafBehind dd es);rwa [hst] at this) (.inr ⟨rfl,b99 q'⟩)
end
end Go.Mc
