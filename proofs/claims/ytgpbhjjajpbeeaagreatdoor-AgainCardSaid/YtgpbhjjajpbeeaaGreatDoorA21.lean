/- A part of what the last file proves. -/
import Derived.Test.YtgpbhjjajpbeeaaGreatDoorA12
import Derived.Test.YtgpbhjjajpbeeaaGreatDoorA20
import Derived.Conc.DeferLaws
set_option linter.all false
set_option maxRecDepth 100000
set_option maxHeartbeats 1600000
open Go.Proofs.Tryz
namespace Go.Proofs.YtgpbhjjajpbeeaaGreatDoor
open Go.RowKit Go.Conc Go.Conc.Lib Go.Mw Go.Mc Go.Bi Pl Go.To
variable{v:aX}{o:Oper}{f:FuncId}{S:Sit}
noncomputable def bot:Frame:={(default:Frame) with fn:=prog.funcs.size,defers:=[],mode:=.panicking [goexitEntry]}
theorem born_step(c:dU)(w:aB):stepG prog false (born prog {target:=.fn (.func 59) c,args:=#[]}) w =
 .go (G ((baseD 59).at ⟨c++Array.replicate (29 - c.size) undef,[]⟩ [.code (vg 0)]) [bot]) w #[]:=by
 simp[born,stepG,unwind,callDeferred,invoke,callFunc,func59,f59,seen,GStep.after,G,Frame.enter,Frame.at,baseD,bot,vg,Code.behind];exact seen_none _ _
theorem quits_tail(T:dU):QuitsD prog 2 0 (G {(baseD 59).at ⟨T,[]⟩ [] with mode:=.returning} [bot]):=by
 refine QuitsD.ctl (g':=G bot []) rfl (λw=>?_) ?_
 ·simp[G,stepG,unwind,doReturn,results,Frame.at,baseD,bot,func59,f59,seen,GStep.after,goexitEntry];exact seen_none _ _
 refine QuitsD.ctl (g':={G bot [] with status:=.finished}) rfl (λw=>?_) ⟨rfl,rfl⟩;simp[G,stepG,unwind,bot,goexitEntry,Frame.catches];rfl
section
open Go.ConcN (WgLive)
section
variable(Z:Pz)(i bx:Nat)(O:Nat->Prop)
def D2(w w':aB)(es:Array Event):Prop:=Nw Z O w->DW Z i bx O O w w' es
theorem O0:Terms (RW Z i bx O) (D2 Z i bx O):=⟨λ_ _ _ h k=>RW.trans Z h k,λw a=>Dw a<|aZ⟩
theorem c9C:LetsDraw (D2 Z i bx O):=λw a=>⟨ak _,rfl,rfl,rfl,λ_ _ _ _ _=>rfl,id,id,λ_ _=>rfl,λ_ h=>h,λ_ h=>.inl h,λb c=>(a b c).2,aZ⟩
theorem d0h(w:aB):RW Z i bx O w {w with drawn:=w.drawn+1}:=⟨ak _,λ_ _=>rfl,rfl,λ_ _=>rfl,id,id,id,λ_ _=>rfl⟩
structure HW(w0:World)(mb sx sb ic c1 c2:Nat)(id:Int)(w:World):Prop where
 nw:Nw Z O w
 grow:w0.heap.size<=w
 own:∀b,O b->w.heap[b]?=w0.heap[b]?
 jQ:Z.oZ mb/\Z.oZ sx/\Z.oZ sb/\Z.oZ ic/\Z.oZ Z.e0
 lt:i<Z.n/\Z.n<=c1/\Z.n<=c2/\Z.n<2147483648
 box:w.heap[bx]?=some (.cells #[.int .i64 i] 3)
 sx:w.cell? sx=some (.pointer (some sb))
 seg:w.cell? ⟨sb,3,none⟩=some (.slice (some ⟨Z.Cb,0,none⟩) Z.n c1)
 ids:w.cell? ⟨mb,1,none⟩=some (.slice (some ⟨ic,0,none⟩) Z.n c2)
 id:w.cell? ⟨ic,i,none⟩=some (.int .i64 id)
 cb:nX Z w
 al:oO Z w
 live:WgLive Z.ty Z.Wg w
 e0:w.cell? ⟨Z.e0,0,none⟩=some Z.v0
variable{Z i bx O}{w0:World}{mb sx sb ic c1 c2:Nat}{id:Int}{w w₁:World}
theorem HW.rely(h:HW Z i bx O w0 mb sx sb ic c1 c2 id w)(r:RW Z i bx O w w₁):HW Z i bx O w0 mb sx sb ic c1 c2 id w₁:=have⟨j,e,f,d,g⟩:=h.jQ;⟨h.nw.rely r,ay h.grow r.size,λb c=>(r.own b c).trans<|h.own b c,h.jQ,h.lt,r.box.trans h.box,(ConcN.cell_of_block (r.jQ _ e) _).trans h.sx,(ConcN.cell_of_block (r.jQ _ f) _).trans h.seg,(ConcN.cell_of_block (r.jQ _ j) _).trans h.ids,(ConcN.cell_of_block (r.jQ _ d) _).trans h.id,r.cb h.cb,r.al h.al,r.live h.live,(ConcN.cell_of_block (r.jQ _ g) _).trans h.e0⟩
theorem HW.yV(h:HW Z i bx O w0 mb sx sb ic c1 c2 id w):w.cell? bx=some (.int .i64 i):=by simp[World.cell?,h.box]
theorem lt_of_cell{w:aB}{a:Addr}(h:w.cell? a=some v):a.block<w.heap.size:=by
 unfold World.cell? at h
 grind
theorem Pm{w:aB}{b k:Nat}(h:w.cell? ⟨b,k,none⟩=some v)(a:Z.oZ b\/b=bx):EvW Z i bx O w ⟨.cell ⟨b,k,none⟩,false,false⟩:=⟨lt_of_cell h,.inr ⟨rfl,.inr<|.inr ⟨a,rfl⟩⟩⟩
end
def tZ(Z:Pz)(i bx:Nat)(O:tyP)(w0:aB)(d:aX)(c h e g f b:Nat)(id:Int)(u:aX)(ds:List Deferred):Exit->Act->World->Prop
 | .normal,a,w=>HW Z i bx O w0 c h e g f b id w/\w.cell? ⟨Z.Cb,2*i,none⟩=some (.int .i64 id)/\w.cell? ⟨Z.Cb,2*i+1,none⟩=some u/\a.defers=ds/\a.tmps.size=29/\a.tmps[5]?=some d/\a.tmps[6]?=some u
 | _,_,_=>False
def tZ.rely{Z:Pz}{i bx:Nat}{O:tyP}{w0:aB}{e:aX}{k j f d g c:Nat}{id:Int}{u:aX}{ds:List Deferred}{a:Act}{w b:aB}(h:tZ Z i bx O w0 e k j f d g c id u ds .normal a w)(r:RW Z i bx O w b):tZ Z i bx O w0 e k j f d g c id u ds .normal a b:=have⟨o,m,n,l⟩:=h;⟨o.rely r,(r.cell _<|.inl rfl).trans m,(r.cell _<|.inr rfl).trans n,l⟩
theorem Ax(w:aB)(a:Addr)(v:aX){b:Nat}(h:a.block≠b):(w.setCell a v).heap[b]?=w.heap[b]?:=by simp[World.setCell,bg,h]
def vL(w:aB)(a:Addr)(v:aX):(w.setCell a v).heap.size=w.heap.size:=aZ
theorem b7d{Z:Pz}(w:aB)(i:Nat)(v0 a:aX)(f:nX Z w)(o:i<Z.n):
 (∀b,b≠Z.Cb->((w.setCell ⟨Z.Cb,i*2,none⟩ v0).setCell ⟨Z.Cb,i*2+1,none⟩ a).heap[b]?=w.heap[b]?)/\nX Z ((w.setCell ⟨Z.Cb,i*2,none⟩ v0).setCell ⟨Z.Cb,i*2+1,none⟩ a)/\
 (∀k,¬jW i k->((w.setCell ⟨Z.Cb,i*2,none⟩ v0).setCell ⟨Z.Cb,i*2+1,none⟩ a).cell? ⟨Z.Cb,k,none⟩=w.cell? ⟨Z.Cb,k,none⟩)/\
 ((w.setCell ⟨Z.Cb,i*2,none⟩ v0).setCell ⟨Z.Cb,i*2+1,none⟩ a).cell? ⟨Z.Cb,2*i,none⟩=some v0/\((w.setCell ⟨Z.Cb,i*2,none⟩ v0).setCell ⟨Z.Cb,i*2+1,none⟩ a).cell? ⟨Z.Cb,2*i+1,none⟩=some a:=by
 obtain⟨j,d,g⟩:=f;have m:(w.setCell ⟨Z.Cb,i*2,none⟩ v0).heap[Z.Cb]?=some (.cells (j.setIfInBounds (i*2) v0) Z.JQ):=by simp[World.setCell,bg,d]
 have e:((w.setCell ⟨Z.Cb,i*2,none⟩ v0).setCell ⟨Z.Cb,i*2+1,none⟩ a).heap[Z.Cb]?=some (.cells ((j.setIfInBounds (i*2) v0).setIfInBounds (i*2+1) a) Z.JQ):=by generalize w.setCell _ v0=p at m;simp[World.setCell,bg,m]
 refine⟨λb l=>?_,⟨_,e,by simp[g]⟩,λk n=>?_,?_,?_⟩
 rw[Ax _ _ _ (dI l),Ax _ _ _ (dI l)]
 unfold jW at n;have h:i*2+1≠k:=aj
 have c:i*2≠k:=aj
 simp[World.cell?,e,d];simp[bf h,bf c]
 simp[World.cell?,e];have h:i*2+1≠2*i:=aj
 have c:i*2=2*i:=aj
 simp[oH,dY,if_false,bf h];rw[c,dP aj]
 simp[World.cell?,e];have c:i*2+1=2*i+1:=aj
 simp[oH,dY,if_false,c];rw[dP iw]
noncomputable def sq:Code:=Code.head (vg 2)
abbrev dk:Oper:={dst:=none,op:=.store 154 (.tmp 25) (.tmp 24),type:=0,pos:= "keydir.go:122",after:=#[{on:=12,ground:=.data},{on:=11,ground:=.data},{on:=0,ground:=.phase},{on:=1,ground:=.phase},{on:=2,ground:=.phase},{on:=3,ground:=.phase},{on:=4,ground:=.phase},{on:=5,ground:=.phase},{on:=6,ground:=.phase},{on:=7,ground:=.phase},{on:=8,ground:=.phase},{on:=9,ground:=.phase},{on:=10,ground:=.phase},{on:=11,ground:=.phase}],guard:=none}
theorem c9E{Z:Pz}{i bx:Nat}{O:tyP}(w0:aB)(hZ:lZ Z)(htC:(3:bT)≠Z.JQ)(V0 V2 W x7 x8 x9 L G I:aX)(B E A D H M:Nat)(id:Int)(ds:List Deferred)(u:Option Addr)(y s:Nat):∃N,∀w,HW Z i bx O w0 B E A D H M id w->
 sq.wpC prog false (RW Z i bx O) (D2 Z i bx O) 59 N (tZ Z i bx O w0 W B E A D H M id (.slice u y s) ds)
  ⟨#[V0,.pointer (some bx),V2,.pointer (some B),.pointer (some E),W,.slice u y s,x7,x8,x9,L,G,I,undef,undef,undef,undef,undef,undef,undef,undef,undef,undef,undef,undef,undef,undef,undef,undef],ds⟩ w:=by
 unfold sq vg;simp only[Code.behind,Code.head,f59,aG];co_apply Exists.intro
 intro w f;have hi:=f.lt;obtain⟨h1,h2,h3,h5⟩:=hi;have k1:(i:Int)<(Z.n:Int):=aj
 have k0:(0:Int)<=(i:Int):=aj
 co_held (O0 Z i bx O) (c9C Z i bx O) (d0h Z i bx O) (HW Z i bx O w0 B E A D H M id) HW.rely f
 co_applyP anyCH_take (O0 Z i bx O) (λ_ _ h r=>HW.rely h r) (λ_ _ _ h r=>tZ.rely h r) (i:=0) rfl aW aW aW (.inl ⟨rfl,λ_ g=>⟨run_eq_of ?jt,?Vw⟩⟩) f ?SR
 case jt=>
  intro K l;have q:=g.sx;go_simp
  exact l
 case Vw=>have q:=g.sx;refineλn=>Dw n ?_;co_evs (exact Pm g.sx (.inl g.jQ.2.1))
 try walk_nrm
 co_applyP anyCH_take (O0 Z i bx O) (λ_ _ h r=>HW.rely h r) (λ_ _ _ h r=>tZ.rely h r) (i:=1) rfl aW aW aW (.inl ⟨rfl,λ_ g=>⟨run_eq_of ?i_,?Vu⟩⟩) f ?SO
 case i_=>
  intro K l;skip
  go_simp
  exact l
 case Vu=>
  skip
  co_still (O0 Z i bx O)
 try walk_nrm
 co_applyP anyCH_take (O0 Z i bx O) (λ_ _ h r=>HW.rely h r) (λ_ _ _ h r=>tZ.rely h r) (i:=2) rfl aW aW aW (.inl ⟨rfl,λ_ g=>⟨run_eq_of ?i7,?Vt⟩⟩) f ?SJ
 case i7=>
  intro K l;skip
  go_simp
  exact l
 case Vt=>
  skip
  co_still (O0 Z i bx O)
 try walk_nrm
 co_applyP anyCH_take (O0 Z i bx O) (λ_ _ h r=>HW.rely h r) (λ_ _ _ h r=>tZ.rely h r) (i:=3) rfl aW aW aW (.inl ⟨rfl,λ_ g=>⟨run_eq_of ?i6,?Vs⟩⟩) f ?SD
 case i6=>
  intro K l;have q:=g.seg;go_simp
  exact l
 case Vs=>have q:=g.seg;refineλn=>Dw n ?_;co_evs (exact Pm g.seg (.inl g.jQ.2.2.1))
 try walk_nrm
 co_applyP anyCH_take (O0 Z i bx O) (λ_ _ h r=>HW.rely h r) (λ_ _ _ h r=>tZ.rely h r) (i:=4) rfl aW aW aW (.inl ⟨rfl,λ_ g=>⟨run_eq_of ?iS,?Vr⟩⟩) f ?Ss
 case iS=>
  intro K l;have q:=g.yV;go_simp
  exact l
 case Vr=>have q:=g.yV;refineλn=>Dw n ?_;co_evs (exact Pm g.yV (.inr rfl))
 try walk_nrm
 co_applyP anyCH_take (O0 Z i bx O) (λ_ _ h r=>HW.rely h r) (λ_ _ _ h r=>tZ.rely h r) (i:=5) rfl aW aW aW (.inl ⟨rfl,λ_ g=>⟨run_eq_of ?iN,?Vq⟩⟩) f ?R9
 case iN=>
  intro K l;skip
  go_simp
  exact l
 case Vq=>
  skip
  co_still (O0 Z i bx O)
 try walk_nrm
 co_applyP anyCH_take (O0 Z i bx O) (λ_ _ h r=>HW.rely h r) (λ_ _ _ h r=>tZ.rely h r) (i:=6) rfl aW aW aW (.inl ⟨rfl,λ_ g=>⟨run_eq_of ?iz,?Vp⟩⟩) f ?R7
 case iz=>
  intro K l;have q:=g.ids;go_simp
  exact l
 case Vp=>have q:=g.ids;refineλn=>Dw n ?_;co_evs (exact Pm g.ids (.inl g.jQ.1))
 try walk_nrm
 co_applyP anyCH_take (O0 Z i bx O) (λ_ _ h r=>HW.rely h r) (λ_ _ _ h r=>tZ.rely h r) (i:=7) rfl aW aW aW (.inl ⟨rfl,λ_ g=>⟨run_eq_of ?iu,?Vo⟩⟩) f ?R2
 case iu=>
  intro K l;have q:=g.yV;go_simp
  exact l
 case Vo=>have q:=g.yV;refineλn=>Dw n ?_;co_evs (exact Pm g.yV (.inr rfl))
 try walk_nrm
 co_applyP anyCH_take (O0 Z i bx O) (λ_ _ h r=>HW.rely h r) (λ_ _ _ h r=>tZ.rely h r) (i:=8) rfl aW aW aW (.inl ⟨rfl,λ_ g=>⟨run_eq_of ?ij,?Vm⟩⟩) f ?RR
 case ij=>
  intro K l;skip
  go_simp
  exact l
 case Vm=>
  skip
  co_still (O0 Z i bx O)
 try walk_nrm
 co_applyP anyCH_take (O0 Z i bx O) (λ_ _ h r=>HW.rely h r) (λ_ _ _ h r=>tZ.rely h r) (i:=9) rfl aW aW aW (.inl ⟨rfl,λ_ g=>⟨run_eq_of ?gR,?Vl⟩⟩) f ?RO
 case gR=>
  intro K l;have q:=g.id;go_simp
  exact l
 case Vl=>have q:=g.id;refineλn=>Dw n ?_;co_evs (exact Pm g.id (.inl g.jQ.2.2.2.1))
 try walk_nrm
 co_applyP anyCH_take (O0 Z i bx O) (λ_ _ h r=>HW.rely h r) (λ_ _ _ h r=>tZ.rely h r) (i:=10) rfl aW aW aW (.inl ⟨rfl,λ_ g=>⟨run_eq_of ?Rx,?Lm⟩⟩) f ?kg
 case Rx=>
  intro K l;skip
  go_simp
  exact l
 case Lm=>
  skip
  co_still (O0 Z i bx O)
 try walk_nrm
 co_applyP anyCH_take (O0 Z i bx O) (λ_ _ h r=>HW.rely h r) (λ_ _ _ h r=>tZ.rely h r) (i:=11) rfl aW aW aW (.inl ⟨rfl,λ_ g=>⟨run_eq_of ?Ru,?Ll⟩⟩) f ?j9
 case Ru=>
  intro K l;skip
  go_simp
  exact l
 case Ll=>
  skip
  co_still (O0 Z i bx O)
 try walk_nrm
 co_applyP anyCH_take (O0 Z i bx O) (λ_ _ h r=>HW.rely h r) (λ_ _ _ h r=>tZ.rely h r) (i:=12) rfl aW aW aW (.inl ⟨rfl,λ_ g=>⟨run_eq_of ?Rt,?Lj⟩⟩) f ?jN
 case Rt=>
  intro K l;skip
  go_simp
  exact l
 case Lj=>
  skip
  co_still (O0 Z i bx O)
 try walk_nrm
 refine anyCH_all (rs:=[13]) aW aZ ?_;intro j hj;obtain rfl:j=13:=by simpa using hj
 unfold OpC;simp only[jh,List.getElem?_cons_succ,eK];rw[if_pos (by rfl)];intro d z;replace f:=f.rely z;clear z;obtain⟨U,p,hsz⟩:=f.cb;have c0:d.cell? ⟨Z.Cb,i*2,none⟩=some U[i*2]:=by simp[World.cell?,p]
 have P:d.cell? ⟨Z.Cb,i*2+1,none⟩=some U[i*2+1]:=by simp[World.cell?,p]
 have z0:∀k,d.frozen? ⟨Z.Cb,k,none⟩=false:=λk=>by simp[World.frozen?,p]
 have d0:∀v,(d.setCell ⟨Z.Cb,i*2,none⟩ v).cell? ⟨Z.Cb,i*2+1,none⟩=some U[i*2+1]:=λv=>by rw[World.cell?_setCell_other _ _ _ _ aZ,P]
 have y0:∀v k,(d.setCell ⟨Z.Cb,i*2,none⟩ v).frozen? ⟨Z.Cb,k,none⟩=false:=λv k=>by rw[World.frozen?_setCell];exact z0 k
 go_simp
 obtain⟨t,t2,t3,t4,t5⟩:=b7d d i (.int .i64 id) (.slice u y s) f.cb h1;have Q:((d.setCell ⟨Z.Cb,i*2,none⟩ (.int .i64 id)).setCell ⟨Z.Cb,i*2+1,none⟩ (.slice u y s)).heap.size=d.heap.size:=by rw[vL,vL]
 have hbx:bx≠Z.Cb:=λe=>by have:=f.box;rw[e,p] at this;injection this with this;injection this with _ h3 _;exact absurd h3.symm htC
 have hl:Z.Cb<d.heap.size:=Bi.lt_of_some p;have C:HW Z i bx O w0 B E A D H M id ((d.setCell ⟨Z.Cb,i*2,none⟩ (.int .i64 id)).setCell ⟨Z.Cb,i*2+1,none⟩ (.slice u y s)):=by
  obtain⟨e1,e2,e3,e4,e5⟩:=f.jQ;have J:=λb(x:Z.oZ b)=>(hZ.jQ b x).2.2.2.1;refine⟨λb x=>by rw[Q];exact f.nw b x,by rw[Q];exact f.grow,λb x=>(t b (λe=>by have:=(f.nw b x).1;have:=hZ.C0;omega)).trans (f.own b x),f.jQ,f.lt,(t _ hbx).trans f.box,(ConcN.cell_of_block (t _ (J _ e2)) _).trans f.sx,(ConcN.cell_of_block (t _ (J _ e3)) _).trans f.seg,(ConcN.cell_of_block (t _ (J _ e1)) _).trans f.ids,(ConcN.cell_of_block (t _ (J _ e4)) _).trans f.id,t2,?_,?_,(ConcN.cell_of_block (t _ (J _ e5)) _).trans f.e0⟩
  ·obtain⟨v,hv⟩:=f.al;exact⟨v,(t _ hZ.AC).trans hv⟩
  ·exact Xl (t _ hZ.WC) f.live
 have ev:∀e∈listed prog 59 ⟨#[V0,.pointer (some bx),V2,.pointer (some B),.pointer (some E),W,.slice u y s,x7,x8,x9,L,G,I,.pointer (some A),.pointer (some A),.pointer (some ⟨A,3,none⟩),.slice (some ⟨Z.Cb,0,none⟩) Z.n H,.int .i64 i,.pointer (some ⟨B,1,none⟩),.slice (some ⟨D,0,none⟩) Z.n M,.int .i64 i,.pointer (some ⟨D,i,none⟩),.int .i64 id,.slice u y s,.agg #[.int .i64 id,.slice u y s],.pointer (some ⟨Z.Cb,i*2,none⟩),undef,undef,undef],ds⟩ dk d,EvW Z i bx O d e:=by
  intro e Y;have F:=mem_listed Y;unfold dk at F;have X:∀(w:aB)(V:Array Event)(a:Addr),(store a (.slice u y s) .plain).events prog w V=storedEv prog w V a (.slice u y s) .plain:=λw V a=>events_store _ _ _ _ _ _ rfl;simp[go_sem,storedEv,c0,P,d0,z0,y0,X] at F;rcases F with F|F<;>subst F
  ·exact⟨hl,.inr ⟨rfl,.inr (.inl ⟨rfl,rfl,.inl (by show i*2=_;omega)⟩)⟩⟩
  ·exact⟨hl,.inr ⟨rfl,.inr (.inl ⟨rfl,rfl,.inr (by show i*2+1=_;omega)⟩)⟩⟩
 refine⟨λn=>⟨fE Q.symm,rfl,rfl,rfl,λb _ _ _ x=>t b x,λ_=>C.al,λ_=>t2,t3,λ_ h=>h,λ_ h=>.inl h,λb x=>by rw[Q];exact(n b x).2,λe Y=>by rw[Q];exact ev e Y⟩,C,?_⟩;exact anyCH_done aW ⟨C,t4,t5,rfl,rfl,rfl,rfl⟩ _
end
section
open Go.ConcN (WgLive Has AtR0)
variable{j n:Nat}
section
variable{Z:Pz}{i bx:Nat}{O:Nat->Prop}{Stop:(Nat->Prop)->Goroutine->World->Prop}{g:Goroutine}{w:World}
theorem qa{a:Goroutine->World->Prop}(m:Nw Z O w)(h:Goes Z.P false (RW Z i bx O) (D2 Z i bx O) a n g w)(o:∀g w,a g w->Nw Z O w->∃T,Ww Z i bx Stop T O g w):∃T,Ww Z i bx Stop T O g w:=by
 let⟨T,q⟩:=Wk.sH (D:=λx j w e l=>j=x/\D2 Z i bx x w e l) (Stop:=λx g w=>x=O/\a g w) O (λ_ _ h=>h) aZ aZ h;have f:Ww Z i bx (λx g w=>x=O/\a g w/\Nw Z O w) T O g w:=by
  refine rN (λx w=>x=O/\Nw Z O w) ?_ ?_ ?_ ?_ ⟨rfl,m⟩ q
  rintro x w e ⟨rfl,h⟩ r;exact⟨rfl,h.rely r⟩
  exactλx w e _ r=>r
  rintro x j w e l ⟨rfl,h⟩ ⟨rfl,d⟩;have:=d h;exact⟨this,rfl,λb k=>⟨(h b k).1,this.Tn b k⟩⟩
  grind
 apply Wk.bind (.refl Z i _) (λ_ _ _ _ f p=>.trans Z f p) f;grind
end
theorem c3K{P:Program}{main:Bool}{R:World->World->Prop}{D:World->World->Array Event->Prop}{fn:FuncId}{Q:Exit->Act->World->Prop}{a:Act}{w:aB}{ops:Array Oper}{rest:List Nat}{g:Func}{x y:Operand}{ats:Array TypeId}{k:IntKind}{ad:Addr}{d:Int}
 (C:ops[j]?=some o)(G:Region.wanted o (yielded ops a.tmps)=true)(m:o.op=.call {callee:=.value (.func f),args:=#[x,y],argTypes:=ats})(A:P.funcs[f]?=some g)(e:(g.name== "runtime.NumGoroutine")=false)(t:g.body.isNone=true)(z:Extern.findNext g=none)
 (s:Extern.find g=some (Extern.Atomic.update (Op.intArith .add) k true))(I:a.eval x=.pointer (some ad))(H:a.eval y=.int k d)
 (h:∀b,R w b->∃v,b.cell? ad=some (.int k v)/\b.frozen? ad=false/\D b (b.setCell ad (.int k (k.wrap (v+d)))) #[⟨.cell ad,false,true⟩,⟨.cell ad,true,true⟩]/\
   OpsC P main R D fn ops rest n Q (a.put o.dst (.int k (k.wrap (v+d)))) (b.setCell ad (.int k (k.wrap (v+d))))):OpsC P main R D fn ops (j::rest) (n+1) Q a w:=by
 refine opsC_cons C G λb r=>?_;let⟨v,q,u,F,J⟩:=h b r;have p:(#[x,y]).map a.eval=#[.pointer (some ad),.int k d]:=by simp[I,H]
 have B:=execOp_call_func (a:=a) m;have i:(execOp a.eval o).run P b=.ok (.value (.int k (k.wrap<|v+d))) (b.setCell ad (.int k (k.wrap<|v+d))):=by rw[B,run_callFunc_extern A e t z s,p,run_add_entry q u];rfl
 have E:listed P fn a o b=#[⟨.cell ad,false,true⟩,⟨.cell ad,true,true⟩]:=by unfold listed;rw[B,events_callFunc_extern A e t z s,p,events_add_entry q u];exact seen_entry fn f _<|sync_rw ad
 simp_all
section
variable(Z:Pz)(i bx:Nat)(O:Nat->Prop)(w0:World)(mb sx sb ic c1 c2:Nat)(id:Int)(u:Value)
structure F3(w:World):Prop where
 hw:HW Z i bx O w0 mb sx sb ic c1 c2 id w
 c0:w.cell? ⟨Z.Cb,2*i,none⟩=some (.int .i64 id)
 c1:w.cell? ⟨Z.Cb,2*i+1,none⟩=some u
end
def F3.rely{Z:Pz}{i bx:Nat}{O:tyP}{w0:aB}{g f c e d b:Nat}{id:Int}{u:aX}{w a:aB}(h:F3 Z i bx O w0 g f c e d b id u w)(r:RW Z i bx O w a):F3 Z i bx O w0 g f c e d b id u a:=
 ⟨h.hw.rely r,(r.cell _<|.inl rfl).trans h.c0,(r.cell _<|.inr rfl).trans h.c1⟩
noncomputable def sk:Code:=vg 3
def c0w:vg 2=.seq sq sk:=rfl
abbrev VN:Oper:={dst:=some 26,op:=.move (.tmp 6),type:=151,pos:= "keydir.go:123",after:=#[],guard:=none}
abbrev VL:Oper:={dst:=some 27,op:=.call {callee:=.builtin .len,args:=#[.tmp 26],argTypes:=#[151]},type:=3,pos:= "keydir.go:123",after:=#[{on:=0,ground:=.data}],guard:=none}
abbrev di:Oper:={dst:=some 28,op:=.call {callee:=.value (.func 62),args:=#[.tmp 5,.tmp 27],argTypes:=#[143,2]},type:=2,pos:= "keydir.go:123",after:=#[{on:=1,ground:=.data}],guard:=none}
def c0x:sk=.region 3 #[VN,VL,di] false:=rfl
abbrev d0i:Oper:={dst:=some 4,op:=.assign (.const (.int .i64 0)),type:=2,pos:= "type.go:128",after:=#[],guard:=none}
noncomputable def df:Array Oper:=match Code.head (Code.behind 1 (Tryz.f62.body.getD .skip)) with|.region _ a _=>a|_=>#[]
def c8k:Tryz.f62.body=some (.seq (.region 0 #[d0i] false) (.seq (.region 1 df false) .ret)):=rfl
def c6x:df=#[{dst:=some 5,op:=.move (.tmp 0),type:=219,pos:= "type.go:128",after:=#[],guard:=none},
 {dst:=some 6,op:=.nilCheck (.tmp 5),type:=0,pos:= "type.go:128",after:=#[{on:=0,ground:=.data}],guard:=none},
 {dst:=some 7,op:=.fieldAddr 143 (.tmp 6) 2,type:=0,pos:= "type.go:128",after:=#[{on:=1,ground:=.data}],guard:=none},
 {dst:=some 8,op:=.move (.tmp 1),type:=2,pos:= "type.go:128",after:=#[],guard:=none},
 {dst:=some 9,op:=.call {callee:=.value (.func 112),args:=#[.tmp 7,.tmp 8],argTypes:=#[221,2]},type:=2,pos:= "type.go:128",after:=#[{on:=2,ground:=.data},{on:=3,ground:=.data}],guard:=none},
 {dst:=some 4,op:=.assign (.tmp 9),type:=2,pos:= "type.go:128",after:=#[{on:=4,ground:=.data},{on:=4,ground:=.chain},{on:=0,ground:=.phase},{on:=1,ground:=.phase},{on:=2,ground:=.phase},{on:=3,ground:=.phase},{on:=4,ground:=.phase}],guard:=none}]:=rfl
def c3O:Extern.find f112=some (Extern.Atomic.update (Op.intArith .add) .i64 true):=rfl
section
variable{Z:Pz}{i bx:Nat}{O:Nat->Prop}{w0:World}{mb sx sb ic c1 c2:Nat}{id:Int}{u:Value}{w:World}
theorem F3.add(g:lZ Z)(o:bx≠Z.Al)(h:F3 Z i bx O w0 mb sx sb ic c1 c2 id u w){v:Int}(q:w.heap[Z.Al]?=some (.cells #[.int .i64 v] Z.gw))(x:Int):
 F3 Z i bx O w0 mb sx sb ic c1 c2 id u (w.setCell ⟨Z.Al,0,none⟩ (.int .i64 x))/\D2 Z i bx O w (w.setCell ⟨Z.Al,0,none⟩ (.int .i64 x)) #[⟨.cell ⟨Z.Al,0,none⟩,false,true⟩,⟨.cell ⟨Z.Al,0,none⟩,true,true⟩]:=by
 have d:∀b,b≠Z.Al->(w.setCell ⟨Z.Al,0,none⟩<|.int .i64 x).heap[b]?=w.heap[b]?:=λb f=>Ax _ _ _<|dI f;have n:=vL w ⟨Z.Al,0,none⟩<|.int .i64 x;have l:oO Z (w.setCell ⟨Z.Al,0,none⟩<|.int .i64 x):=⟨x,by simp[World.setCell,bg,q]⟩;have j:nX Z _:=have⟨D,A,E⟩:=h.hw.cb;⟨D,(d _<|dI g.AC).trans A,E⟩
 have c:=h.hw;let⟨r,s,z,y,t⟩:=c.jQ;have m:=λb(f:Z.oZ b)=>(g.jQ b f).2.2.1;refine⟨⟨⟨λb f=>by rw[n];exact c.nw b f,by rw[n];exact c.grow,λb f=>(d b (λe=>by have:=(c.nw b f).1;have:=g.A0;omega)).trans<|c.own b f,c.jQ,c.lt,(d _ o).trans c.box,(ConcN.cell_of_block (d _<|m _ s) _).trans c.sx,(ConcN.cell_of_block (d _<|m _ z) _).trans c.seg,(ConcN.cell_of_block (d _<|m _ r) _).trans c.ids,(ConcN.cell_of_block (d _<|m _ y) _).trans c.id,j,l,Xl (d _ g.WA) c.live,(ConcN.cell_of_block (d _<|m _ t) _).trans c.e0⟩,
  (ConcN.cell_of_block (d _<|dI g.AC) _).trans h.c0,(ConcN.cell_of_block (d _<|dI g.AC) _).trans h.c1⟩,λB=>⟨fE n.symm,rfl,rfl,rfl,λb _ _ f _=>d b f,λ_=>l,λ_=>j,λk _=>ConcN.cell_of_block (d _<|dI g.AC) _,λ_ h=>h,λ_ h=>.inl h,λb f=>by rw[n];exact(B b f).2,λe p=>?_⟩⟩
 simp[DF,bI,jG,or_false] at p;obtain rfl|rfl:=p<;>exact⟨by rw[n];exact Bi.lt_of_some q,.inl ⟨rfl,rfl⟩⟩
end
theorem c9H{Z:Pz}{i bx:Nat}{O:tyP}(p:lZ Z)(hbx:bx≠Z.Al)(w0:aB)(g n j l k f:Nat)(id:Int)(u:aX)(m:Nat):∃N,∀w,F3 Z i bx O w0 g n j l k f id u w->
 CallsC prog false (RW Z i bx O) (D2 Z i bx O) 62 #[.pointer (some ⟨Z.Al,0,none⟩),.int .i64 m] N w λ_ w'=>F3 Z i bx O w0 g n j l k f id u w':=by
 co_apply Exists.intro
 intro w b;co_apply callsC_of_wpC func62 aW c8k
 simp only[ntmps62,lM,dK,jT,Nat.reduceAdd,Nat.reduceSub,iJ,iI,jA,iO,eF,List.cons_append];co_stmt (O0 Z i bx O) F3.rely b (co_quiet (O0 Z i bx O))
 rw[c6x];co_apply wpC_seq (O0 Z i bx O)
 co_reg (O0 Z i bx O)
 co_op F3.rely b (co_quiet (O0 Z i bx O))
 co_op F3.rely b (co_quiet (O0 Z i bx O))
 co_op F3.rely b (co_quiet (O0 Z i bx O))
 co_op F3.rely b (co_quiet (O0 Z i bx O))
 co_apply c3K rfl rfl rfl func112 aW aW rfl c3O rfl rfl
 intro o r;replace b:=F3.rely b r;obtain⟨v,c⟩:=b.hw.al;have a:=b.add p hbx c (IntKind.i64.wrap (v+m));refine⟨v,by simp[World.cell?,c],by simp[World.frozen?,c],a.2,?_⟩;have h:=a.1;clear a b c;walk_nrm;co_op F3.rely h (co_quiet (O0 Z i bx O))
 co_apply opsC_nil (O0 Z i bx O)
 co_then
 co_ctl (O0 Z i bx O)
 exact⟨rfl,_,resultsC_tmp (rfl) _,h⟩
end
section
open Go.ConcN (WgLive Has AtR0)
variable{Z:Pz}{i:Nat}{O:tyP}
variable[Go.ConcR.Payload]
def QW3(Z:Pz)(i bx:Nat)(O:tyP)(w0:aB)(c g d f e b:Nat)(id:Int)(u:aX)(ds:List Deferred):Exit->Act->World->Prop
 | .normal,a,w=>F3 Z i bx O w0 c g d f e b id u w/\a.defers=ds
 | _,_,_=>False
theorem c9I{bx:Nat}(H:lZ Z)(z:bx≠Z.Al)(w0:aB)(s t r p x u:Nat)(id:Int)(d:Option Addr)(a e:Nat)(ds:List Deferred):∃N,∀T w,T.size=29->T[5]?=some (.pointer (some ⟨Z.Al,0,none⟩))->T[6]?=some (.slice d a e)->F3 Z i bx O w0 s t r p x u id (.slice d a e) w->
 sk.wpC prog false (RW Z i bx O) (D2 Z i bx O) 59 N (QW3 Z i bx O w0 s t r p x u id (.slice d a e) ds) ⟨T,ds⟩ w:=by
 obtain⟨C,o⟩:=c9H H z w0 s t r p x u id (.slice d a e) a;refine⟨1+C+3+1+1+1,λT w V I U W=>?_⟩;rw[c0x];refine wpC_region (O0 Z i bx O) ?_;have L:List.range (#[VN,VL,di]:Array Oper).size=[0,1,2]:=rfl
 rw[L];refine opsC_cons (n:=1+C+3+1) (o:=VN) rfl (rfl) λc n=>?_;have S:(execOp (Act.eval ⟨T,ds⟩) VN).run prog c=.ok (.value (.slice d a e)) c:=by show Result.ok (Next.value _) c=_;rw[(J5 (ds:=ds) U)]
 rw[S];refine⟨λy=>Dw y (by rw[listed_nil (rfl)];simp),?_⟩;have K:Act.put ⟨T,ds⟩ VN.dst (.slice d a e)=⟨T.setIfInBounds 26 (.slice d a e),ds⟩:=rfl;rw[K];have l:(T.setIfInBounds 26 (.slice d a e))[26]?=some (.slice d a e):=zx aj;have j:=D8 (u:=.slice d a e) (j:=26) I dA;have E:(T.setIfInBounds 26 (.slice d a e)).size=29:=by simp[V]
 generalize T.setIfInBounds 26 (.slice d a e)=g at l j E⊢;have q:=J5 (ds:=ds) l;refine opsC_cons (n:=1+C+3) (o:=VL) rfl (rfl) λb m=>?_;have G:prog.underlying 151=some (.slice 160):=aW
 have P:(execOp (Act.eval ⟨g,ds⟩) VL).run prog b=.ok (.value (.int .i64 a)) b:=by generalize Act.eval ⟨g,ds⟩ = ρ at q;simp[go_sem,q,G]
 rw[P];refine⟨λy=>Dw y (by rw[listed_nil (by generalize Act.eval ⟨g,ds⟩ = ρ at q;simp[go_sem,q,G])];simp),?_⟩;have M:Act.put ⟨g,ds⟩ VL.dst (.int .i64 a)=⟨g.setIfInBounds 27 (.int .i64 a),ds⟩:=rfl;rw[M];have k:(g.setIfInBounds 27 (.int .i64 a))[27]?=some (.int .i64 a):=zx aj;replace j:=D8 (u:=.int .i64 a) (j:=27) j dA;generalize g.setIfInBounds 27 _=J at k j⊢;refine opsC_call (n:=1) (O0 Z i bx O) rfl (rfl) rfl (Post:=λ_ F=>F3 Z i bx O w0 s t r p x u id (.slice d a e) F) ?_ λv F D=>?_
 have R:(#[.tmp 5,.tmp 27]).map (Act.eval ⟨J,ds⟩)=#[.pointer (some ⟨Z.Al,0,none⟩),.int .i64 a]:=by simp only[fM,bD,dS];rw[J5 j,J5 k]
 rw[R];exact o b (F3.rely (F3.rely W n) m)
 exact opsC_nil (O0 Z i bx O) ⟨D,rfl⟩
def c6y{bx:Nat}{w a:aB}(c:lZ Z)(h:RW Z i bx O w a):ConcN.RW Z.ty Z.Wg Z.e0 Z.n 0 0 w a:=Mc.Ba c h
theorem c3P{bx:Nat}(k:lZ Z)(f:Z.P=prog)(b:Z.ty=149)(w0:aB)(m o l n j q:Nat)(id:Int)(u:aX)(T:dU)
 (c:∀w,F3 Z i bx O w0 m o l n j q id u w->Z.ni i bx O w)(w:aB)(d:F3 Z i bx O w0 m o l n j q id u w):
 ∃Tr,Ww Z i bx (Yv Z i bx) Tr O (G ((baseD 59).at ⟨T,[dcall 60 #[.pointer (some ⟨Z.Wg,0,none⟩)]]⟩ []) [bot]) w:=by
 have y:=d.hw.nw;apply G_ y rfl (λ_=>stepG_end);apply G_ y rfl (λ_=>stepG_unwind_enter rfl (by rw[f];rfl) rfl rfl);let⟨ξ,a⟩:=Wk.sH (R:=λ_=>ConcN.RW 149 Z.Wg _ Z.n 0 0) (D:=λx v w e t=>v=x/\ConcR.DC0 w e t) (Stop:=λ_ g w=>AtR0 _ 149 _ _ Z.n 0 1 _ g w) O (λ_ _ h=>h) aZ (λ_ _ h=>h) (b8g (k:=1) wgLib rfl (quits_tail T) w ⟨by have:=d.hw.live;simp_all,d.hw.e0⟩);refine⟨ξ,?_⟩;unfold Ww;rw[f];refine rN (λx w=>x=O/\F3 Z i bx O w0 m o l n j q id u w) ?_ ?_ ?_ ?_ ⟨rfl,d⟩ a
 rintro x w e ⟨rfl,h⟩ r;exact⟨rfl,h.rely r⟩
 rintro x w e _ r;have:=c6y k r;rw[b] at this;exact this
 rintro x v w e t ⟨rfl,h⟩ ⟨rfl,rfl,rfl⟩;exact⟨Dw h.hw.nw<|aZ,rfl,h⟩
 rintro x g w ⟨rfl,h⟩ s;refine⟨?_,c w h⟩;grind
theorem c0y{bx:Nat}(y:lZ Z)(D:Z.P=prog)(z:Z.ty=149)(U:(3:bT)≠Z.JQ)(A:bx≠Z.Al)(w0:aB)(M H I E s u t:aX)(d b j h f k:Nat)(id:Int)(n:Option Addr)(l m:Nat)
 (p:∀w,F3 Z i bx O w0 d b j h f k id (.slice n l m) w->Z.ni i bx O w)(w:aB)(J:HW Z i bx O w0 d b j h f k id w):
 ∃Tr,Ww Z i bx (Yv Z i bx) Tr O (G ((baseD 59).at ⟨#[.pointer (some ⟨Z.Wg,0,none⟩),.pointer (some bx),M,.pointer (some d),.pointer (some b),.pointer (some ⟨Z.Al,0,none⟩),.slice n l m,H,I,E,s,u,t,undef,undef,undef,undef,undef,undef,undef,undef,undef,undef,undef,undef,undef,undef,undef,undef],
  [dcall 60 #[.pointer (some ⟨Z.Wg,0,none⟩)]]⟩ [.code (vg 2)]) [bot]) w:=by
 obtain⟨N2,X⟩:=c9E w0 y U _ M _ H I E s u t d b j h f k id _ n l m;obtain⟨V,R⟩:=c9I y A w0 d b j h f k id n l m _;rw[c0w];apply G_ J.nw rfl (λ_=>stepG_seq);apply qa J.nw (D▸(wpC_goes (m:=0) (Stop:=λg w=>∃c,g=G ((baseD 59).at c _) _/\tZ Z i bx O w0 _ d b j h f k id _ _ _ c w) (X w J) rfl qc λe c P q=>by
  cases e<;>first|exact q.elim|exactλa r=>⟨c,rfl,q.rely r⟩));rintro _ a ⟨c,rfl,B,v,S,F,N,L,K⟩ C;let⟨W,Q⟩:=c;subst F;apply qa C (D▸(wpC_goes (m:=0) (Stop:=λg w=>∃T,g=G ((baseD 59).at ⟨T,[dcall 60 _]⟩ []) _/\F3 Z i bx O w0 d b j h f k id _ w) (R W a N L K ⟨B,v,S⟩) rfl qc λe c P q=>by
  cases e<;>first|exact q.elim|skip
  let⟨B,v⟩:=q;let⟨T,ds⟩:=c;subst v;exactλa r=>⟨T,rfl,B.rely r⟩));rintro _ o ⟨Y,rfl,x⟩ _;exact c3P y D z w0 d b j h f k id _ Y p o x
end
def sb:SB:={F:=λf=>[61,71,126,127,128,166].contains f,T:=λt=>t==37}
noncomputable def eg(f:Nat):Bool:=match prog.funcs[f]? with
 | some a=>(match a.body with|some c=>iF sb prog c|none=>false)&&a.name != "runtime.NumGoroutine"
 | none=>false
def d0r:[61,71,126,127,128,166].all eg=true:=aW
def wF(f:FuncId):Prop:=sb.F f=true
def wT(t:bT):Prop:=sb.T t=true
theorem lp(h:wF f):∃fn c,prog.funcs[f]?=some fn/\fn.body=some c/\iF sb prog c=true/\(fn.name== "runtime.NumGoroutine")=false:=by
 have a:=aU.1 d0r f (by simpa [wF,sb] using h);unfold eg at a;split at a
 rename_i fn d;rw[aI] at a;let⟨b,g⟩:=a;split at b
 rename_i c j;exact⟨fn,c,d,j,b,by simpa using g⟩
 cases b
 cases a
theorem pqb(m:S.F=wF)(e:∀b,S.D b->prog.globals.size<=b)(d:∀b,S.D b->prog.globals.size<=S.ren b)(g:∀a b,S.D a->S.D b->S.ren a=S.ren b->a=b):sZ S prog:=
 ⟨⟨⟨e,g⟩,d⟩,λf k=>have⟨i,c,l,j,_,n⟩:=lp<|m▸k;⟨i,l,by rw[j];rfl,n⟩⟩
theorem c5M(b:S.F=wF)(k:S.T=wT)(f:FuncId)(fn:Func)(c:Code)(a:S.F f)(j:prog.funcs[f]?=some fn)(d:fn.body=some c):jO S prog Zn.Full c:=by let⟨l,o,m,h,g,_⟩:=lp<|b▸a;obtain rfl:=aO<|m.symm.trans j;obtain rfl:=aO<|h.symm.trans d;exact iF.sound (λt e=>by rw[k];exact e) (λf a=>by rw[b];exact a) g
section
open Go.ConcN (WgLive Has AtR0)
open Zn (ext low kk Gr K0 Nx Full tp kH Zf)
variable[Go.ConcR.Payload]
def fW(t:Tmp):Bool:=[1,2,6,7,8,9,10,11,12].contains t
abbrev xW(t:Tmp):Prop:=fW t=true
def c9J:Zn.gV zone kP:=Zn.nU.sound<|rfl
def d0j:Zn.iW xW kP:=Zn.mG.sound<|rfl
theorem c8l(c:S.F=wF)(b:S.T=wT):jO S prog xW kP:=
 Zn.Gu (iF.sound (λt d=>by rw[b];exact d) (λf a=>by rw[c];exact a)<|rfl) rfl rfl
theorem b7g{w w2:aB}{base n b:Nat}{e:bT}{v':aX}{xs:jl}(D:WR S w w2)(A:VR S v v')(h:w.ownsRow base e b v n xs)(l:∀x∈xs,∀y,VR S x y->y=x):
 oP w2 e b v' n xs/\∀g,v'.ownBlock=some g->∃a,S.D a/\base<=a/\S.ren a=g:=by
 obtain⟨rfl,rfl⟩|⟨g,p,j,rfl,H,t,r,s,q,d⟩:=h.2
 cases A;exact⟨⟨h.1,.inl ⟨rfl,rfl⟩⟩,λg t=>by cases t⟩
 cases A with
 | slice a n c z=>
  let⟨K,m,G⟩:=D.get z t
  cases G with
  | cells c J e M o C=>
   refine⟨⟨h.1,.inr ⟨S.ren g,p,J,o,rfl,m,r,s,C.size.symm.trans q,?_⟩⟩,λk E=>⟨g,z,H,by simpa [Value.ownBlock] using E⟩⟩;rw[<-d];apply jC;intro i;rw[fB,fB];split
   rename_i I;obtain⟨f,u⟩|⟨x,y,f,u,F⟩:=C.get? i
   rw[eH,eH,f,u]
   rw[eH,eH,f,u,l x ?_ y F];rw[<-d];have:(j.toList.take<|n*b)[i]?=some x:=by rw[fB,if_pos I,eH,f]
   exact aH this
   rfl
theorem b1J(k:Int)(l:List (Nat×Rec)):∀x∈l.flatMap (O6 k),∀y,VR S x y->y=x:=by intro x c y b;let⟨p,_,a⟩:=qj.1 c;simp[O6,bI,jG,or_false] at a;obtain rfl|rfl|rfl|rfl|rfl|rfl|rfl:=a<;>cases b<;>rfl
theorem bytes_at{w w':World}(h:∀a,a.block<w.heap.size->w'.cell? a=w.cell? a){v:Value}{l:List UInt8}(f:Bytes w v l):Bytes w' v l:=by obtain⟨a,c,rfl,g,m,k⟩:=f;refine⟨a,c,rfl,g,m,λj=>?_⟩;obtain⟨b,rfl,e⟩:=k j;exact⟨b,rfl,λi x d=>(h _<|lt_of_cell<|e i x d).trans<|e i x d⟩
def AW1(m:Nat)(l:dV)(i:Nat)(F:Frame)(w':aB):Prop:=∃a,F=(base 59).at a K0/\a.defers=[]/\a.tmps.size=29/\a.tmps[1]?=some (.pointer (some ⟨m - 1,0,none⟩))/\∃u,a.tmps[6]?=some u/\w'.ownsRow m 160 7 u (D7 l).length ((D7 l).flatMap (O6 i))
theorem c3Q{i n k fb rb:Nat}{w:aB}{Sh DB:tyP}{l:dV}(r:kH zone Sh w)(M:¬Sh fb)(f:w.cell? fb=some (.slice (some ⟨rb,0,none⟩) n k))(m:i<n/\n<=k/\n<2147483648)(s:w.cell? ⟨rb,i,none⟩=some v)(z:Bytes w v l)(J:l.length<=1099511627776):
 Zn.vK prog zone Sh xW (AW1 (w+1) l i) ((base 59).at ⟨vW undef undef undef undef w fb,[]⟩ [.code kP]) [] (xJ DB w (.cells #[.int .i64 i] 3 (0,1))):=by
 have N:¬Sh w.heap.size:=λh=>by have:=r.sh _ h;omega
 refine b9W (Q0:=λe c g=>e=.normal/\c.defers=[]/\c.tmps.size=29/\c.tmps[1]?=some (.pointer<|some ⟨w+1 - 1,0,none⟩)/\∃u,c.tmps[6]?=some u/\g.ownsRow (w+1) 160 7 u (D7 l).length ((D7 l).flatMap<|O6 i)) kh ⟨?_,λd H=>(by cases H),c6p r (.cells _ _ _<|Zn.AP.one<|.int .i64 i)⟩ rfl c9J d0j (λτ p=>?_) ?_ ?_
 ·intro t D;obtain rfl|rfl|rfl|rfl|rfl|rfl|rfl|rfl|rfl:=(by have E:fW t=true:=D;simpa [fW] using E)
  exact .ptr _ ⟨by rw[Dz];simp,N⟩
  exact .ptr _ ⟨by rw[Dz];exact Nat.lt_succ_of_lt<|lt_of_cell f,M⟩
  all_goals exact .tuple _ Zn.AP.nil
 have b:∀a,a.block<w.heap.size->(tp (xJ DB w<|.cells #[.int .i64 i] 3 (0,1)) τ p).cell? a=w.cell? a:=λa h=>c3l h;refine Code.wp_mono ?_<|c9B undef undef undef undef _ fb rb i n k v l _ (by simp[World.cell?,ZN]) ((b _<|lt_of_cell f).trans f) m.1 m.2.1 m.2.2 ((b _<|lt_of_cell s).trans s) (bytes_at b z) J;intro e c g q;cases e<;>first|exact q.elim|skip
 obtain⟨C,j,L,u,K,x,-⟩:=q;refine⟨rfl,C,j,L,u,K,?_⟩;have I:(tp (xJ DB w<|.cells #[.int .i64 i] 3 (0,1)) τ p).heap.size=w+1:=Dz;rw[I] at x;exact x
 rintro e c g ⟨rfl,G,O⟩;exact⟨rfl,c,rfl,G,O⟩
 rintro F g ⟨c,rfl,_⟩;exact⟨c,rfl⟩
theorem c9K(T:dU)(b:T.size=29):T=#[T.getD 0 undef,T.getD 1 undef,T.getD 2 undef,T.getD 3 undef,T.getD 4 undef,T.getD 5 undef,T.getD 6 undef,T.getD 7 undef,T.getD 8 undef,T.getD 9 undef,T.getD 10 undef,T.getD 11 undef,T.getD 12 undef,T.getD 13 undef,T.getD 14 undef,T.getD 15 undef,T.getD 16 undef,T.getD 17 undef,T.getD 18 undef,T.getD 19 undef,T.getD 20 undef,T.getD 21 undef,T.getD 22 undef,T.getD 23 undef,T.getD 24 undef,T.getD 25 undef,T.getD 26 undef,T.getD 27 undef,T.getD 28 undef]:=by
 apply Array.ext
 ·exact b
 intro j d e;have a:∀k(h:k<T.size),T[k]=T.getD k undef:=λk h=>by simp[Array.getD,h]
 rw[a];have c:j<29:=aj
 match j,c with
 | 0,_=>rfl
 | 1,_=>rfl
 | 2,_=>rfl
 | 3,_=>rfl
 | 4,_=>rfl
 | 5,_=>rfl
 | 6,_=>rfl
 | 7,_=>rfl
 | 8,_=>rfl
 | 9,_=>rfl
 | 10,_=>rfl
 | 11,_=>rfl
 | 12,_=>rfl
 | 13,_=>rfl
 | 14,_=>rfl
 | 15,_=>rfl
 | 16,_=>rfl
 | 17,_=>rfl
 | 18,_=>rfl
 | 19,_=>rfl
 | 20,_=>rfl
 | 21,_=>rfl
 | 22,_=>rfl
 | 23,_=>rfl
 | 24,_=>rfl
 | 25,_=>rfl
 | 26,_=>rfl
 | 27,_=>rfl
 | 28,_=>rfl
 | k+29,h=>omega
theorem c6z(h:wF f):zone.F f:=have:[61,71,126,127,128,166].all (λf=>fs.testBit f)=true:=rfl;aU.1 this f (by simpa [wF,sb] using h)
theorem c6A{Z:Pz}{i bx n fc fb rb:Nat}{w w2:aB}{Sh DB:tyP}{l:dV}{Stop:(Nat->Prop)->Goroutine->World->Prop}(hZ:lZ Z)(hP:Z.P=prog)(hW:kH zone Sh w)(V0 V3 V4 V5:aX)(ds:List Deferred)
 (hDB:∀b,DB b->prog.globals.size<=b/\b<w.heap.size/\Z.oZ b/\w2.heap[b]?=w.heap[b]?/\∃c e fr,w.heap[b]?=some (.cells c e fr)/\∀v∈c,Plain DB v)(Uo:DB fb)(nu:¬Sh fb)
 (hfb:w.cell? fb=some (.slice (some ⟨rb,0,none⟩) n fc))(hn:i<n/\n<=fc/\n<2147483648)(hc:w.cell? ⟨rb,i,none⟩=some v)(hv:Bytes w v l)(hl:l.length<=1099511627776)
 (hbx:w2.heap[bx]?=some (.cells #[.int .i64 i] 3))(hbL:Z.L0<=bx/\w<=bx)(hL:Z.L0<=w2)(hLw:w<=Z.L0)(gl:prog.globals.size<=w)
 (hk:∀(O:tyP)(u V2 x7 x8 x9 x10 x11 x12:aX)(w3:aB),Nw Z O w3->¬O bx->Kp Z bx w2 w3->oP w3 160 7 u (D7 l).length ((D7 l).flatMap (O6 i))->(∀g,u.ownBlock=some g->O g)->
   (∀b,O b->∃o,w3.heap[b]?=some o/\Zn.je {zone with D:=λb=>DB b\/b=bx\/O b} o)->
   ∃T,Ww Z i bx Stop T O (G ((baseD 59).at ⟨#[V0,.pointer (some bx),V2,V3,V4,V5,u,x7,x8,x9,x10,x11,x12,undef,undef,undef,undef,undef,undef,undef,undef,undef,undef,undef,undef,undef,undef,undef,undef],ds⟩ [.code (vg 2)]) [bot]) w3):
 ∃T,Ww Z i bx Stop T (λ_=>False) (G ((baseD 59).at ⟨#[V0,.pointer (some bx),.pointer (some fb),V3,V4,V5,undef,undef,undef,undef,undef,undef,undef,undef,undef,undef,undef,undef,undef,undef,undef,undef,undef,undef,undef,undef,undef,undef,undef],ds⟩ [.code kP,.code (vg 2)]) [bot]) w2:=by
 have UH:(#[V0,.pointer (some bx),.pointer (some fb),V3,V4,V5,undef,undef,undef,undef,undef,undef,undef,undef,undef,undef,undef,undef,undef,undef,undef,undef,undef,undef,undef,undef,undef,undef,undef]:dU).size=29:=rfl;obtain⟨T2,hT2⟩:∃T2:dU,T2=#[V0,.pointer (some bx),.pointer (some fb),V3,V4,V5,undef,undef,undef,undef,undef,undef,undef,undef,undef,undef,undef,undef,undef,undef,undef,undef,undef,undef,undef,undef,undef,undef,undef]:=⟨_,rfl⟩;rw[<-hT2] at UH⊢;have mR:=c3Q (DB:=DB) hW nu hfb hn hc hv hl;have hDlt:∀b,DB b->b<w.heap.size:=λb h=>(hDB b h).2.1;have hne:∀b,DB b->b≠w.heap.size:=λb h=>by have:=hDlt b h;omega
 have od:bx<w2.heap.size:=Bi.lt_of_some hbx;have hwr:WR (sS DB wF wT w bx (λt=>T2.getD t undef) ds .deferred) (xJ DB w (.cells #[.int .i64 i] 3 (0,1))) w2:=
  c6q (λb h=>⟨(hDB b h).2.1,(hDB b h).2.2.2⟩) hbx hbL.2
 have FQ:∀b,DB b->(sS DB wF wT w bx (λt=>T2.getD t undef) ds .deferred).ren b=b:=λb h=>if_neg (hne b h);have Bf:(sS DB wF wT w bx (λt=>T2.getD t undef) ds .deferred).ren w.heap.size=bx:=if_pos rfl;have hfr:tJ (sS DB wF wT w bx (λt=>T2.getD t undef) ds .deferred) prog xW [] ((base 59).at ⟨vW undef undef undef undef w fb,[]⟩ [.code kP]) ((baseD 59).at ⟨T2,ds⟩ [.code kP]):=by
  refine⟨rfl,UH,?_,rfl,?_,rfl,.inl rfl,rfl,rfl,⟨by simp[base,Frame.at],by simp[baseD,Frame.at]⟩,λh=>absurd rfl h,rfl,λt _=>rfl,λ_=>⟨rfl,rfl⟩⟩
  ·intro t ht;have hm:t=1\/t=2\/t=6\/t=7\/t=8\/t=9\/t=10\/t=11\/t=12:=by have h':fW t=true:=ht;simpa [fW] using h'
   subst hT2;rcases hm with rfl|rfl|rfl|rfl|rfl|rfl|rfl|rfl|rfl
   ·have:=VR.ptr (S:=sS DB wF wT w bx (λt=>(#[V0,.pointer (some bx),.pointer (some fb),V3,V4,V5,undef,undef,undef,undef,undef,undef,undef,undef,undef,undef,undef,undef,undef,undef,undef,undef,undef,undef,undef,undef,undef,undef,undef]:dU).getD t undef) ds .deferred) w (.inr rfl);unfold rA at this;rw[Bf] at this;exact this
   ·have:=VR.ptr (S:=sS DB wF wT w bx (λt=>(#[V0,.pointer (some bx),.pointer (some fb),V3,V4,V5,undef,undef,undef,undef,undef,undef,undef,undef,undef,undef,undef,undef,undef,undef,undef,undef,undef,undef,undef,undef,undef,undef,undef]:dU).getD t undef) ds .deferred) fb (.inl Uo);unfold rA at this;rw[FQ fb Uo] at this;exact this
   all_goals exact Qk
  ·intro x hx;obtain rfl:x=.code kP:=by simpa [Frame.at] using hx
   exact .code _ (c8l rfl rfl)
 have hpq:sZ (sS DB wF wT w bx (λt=>T2.getD t undef) ds .deferred) prog:=by
  refine pqb rfl ?_ ?_ hwr.inj
  ·rintro b (h|rfl)
   ·exact(hDB b h).1
   ·exact gl
  ·rintro b (h|rfl)
   ·rw[FQ b h];exact(hDB b h).1
   ·rw[Bf];omega
 have hwk:=c8e (I0 Z bx) (sS DB wF wT w bx (λt=>T2.getD t undef) ds .deferred) kh (λF w τ p h=>h) [.code (vg 2)] [bot] mR _ ((baseD 59).at ⟨T2,ds⟩ [.code kP]) [] w2 (λ_=>False) (.refl _) (λb h=>.inl h)
  (λf fn c=>c5M rfl rfl f fn c) hpq (c3n hDlt _ _) hfr .nil hwr (λb=>⟨λh=>h.elim,λ⟨a,_,h,_⟩=>h.elim⟩) (by
   rintro a (h|rfl)
   ·rw[FQ a h];exact .inl (.inl (hDB a h).2.2.1)
   ·rw[Bf];exact .inl (.inr rfl)) (by rw[Dz];omega) aj
 have uX:bx≠Z.Al:=by have:=hZ.A0;omega
 have hbC:bx≠Z.Cb:=by have:=hZ.C0;omega
 refine b54 hZ (λ_ h=>h.elim) hL ⟨λh=>h,od,uX,hbC⟩ (hP▸hwk) ?_;rintro O g w3 ⟨S,fr,pU,wl,hle,hdw,rfl,hF,Z0,hcur,KR,hro,⟨a',ar,hda,h29,hu1,u,hu,hown⟩⟩ hN hOb hKp;obtain⟨f1,f2,f3,f4,f5,f6,f7⟩:=fr;simp only[ext,Frame.at,Frame.mk.injEq] at ar;obtain⟨rfl,rfl,e3,rfl,rfl,rfl,rfl⟩:=ar;obtain rfl:=To.nI e3;obtain⟨g1,g2,g3,g4,g5,g6,g7⟩:=pU;obtain⟨c1,c2,c3,c4,c5,c6,c7,c8,c9,c10,c11,c12,c13⟩:=hF;dsimp only at c1 c2 c3 c4 c6 c9;obtain⟨k1,k2⟩:=c13;have k3:=(k2 rfl).2;replace k2:=(k2 rfl).1;dsimp only at k1 k2 k3;subst c1 c4 c6 c9;rw[hle.k.2.1] at k2;rw[hle.k.2.2] at k3;subst k2 k3;rw[hle.k.1] at k1;have hsz:g2.size=29:=aj
 have kept:∀t,fW t=false->g2.getD t undef=T2.getD t undef:=λt ht=>k1 t λh=>by have h':fW t=true:=h;rw[ht] at h';cases h'
 have q1:g2.getD 1 undef=.pointer (some bx):=by
  have h1:=c3 1 (show fW 1=true by decide);rw[aV,hu1] at h1;have h2:∀y,VR S (.pointer (some ⟨w+1 - 1,0,none⟩)) y->y=.pointer (some bx):=by
   intro y hy
   cases hy with
   | ptr a ha=>unfold rA;rw[show w.heap.size+1 - 1=w.heap.size from rfl,hle.ren _ (.inr rfl),Bf]
  exact h2 _ h1
 have v6:VR S u (g2.getD 6 undef):=by have:=c3 6 (show fW 6=true by decide);rw[aV,hu] at this;exact this
 obtain⟨hrow,hrb⟩:=b7g Z0 v6 hown (b1J i _);have hS0:∀a,S.D a->w.heap.size+1<=a->S.W a:=λa h1 h2=>by
  rcases hdw a h1 with(h|h)|h
  ·have:=hDlt a h;omega
  ·omega
  ·exact h
 have:=hk O (g2.getD 6 undef) (g2.getD 2 undef) (g2.getD 7 undef) (g2.getD 8 undef) (g2.getD 9 undef) (g2.getD 10 undef) (g2.getD 11 undef) (g2.getD 12 undef) w3 hN hOb hKp hrow (λg hg=>by
  obtain⟨a,h1,h2,rfl⟩:=hrb g hg;exact(KR _).2 ⟨a,h1,hS0 a h1 h2,rfl⟩) (λb hb=>by
  obtain⟨a,h1,h2,rfl⟩:=(KR b).1 hb;obtain⟨o,o',h3,h4,h5⟩:=Z0.obj a h1 (hcur a h1);refine⟨o',h4,h5.right (λb h=>?_) (λf h=>?_) λt _=>rfl⟩
  ·rcases hdw b h with(h|h)|h
   ·rw[hle.ren b (.inl h),FQ b h];exact .inl h
   ·rw[hle.ren b (.inr h),h,Bf];exact .inr (.inl rfl)
   ·exact .inr (.inr ((KR _).2 ⟨b,kT,h,rfl⟩))
  ·rw[hle.F] at h;exact c6z h)
 have e29:=c9K g2 hsz;rw[show g2.getD 0 undef=V0 by rw[kept 0 dA,hT2];rfl] at e29;rw[show g2.getD 3 undef=V3 by rw[kept 3 dA,hT2];rfl] at e29;rw[show g2.getD 4 undef=V4 by rw[kept 4 dA,hT2];rfl] at e29;rw[show g2.getD 5 undef=V5 by rw[kept 5 dA,hT2];rfl] at e29;rw[show g2.getD 13 undef=undef by rw[kept 13 dA,hT2];rfl] at e29;rw[show g2.getD 14 undef=undef by rw[kept 14 dA,hT2];rfl] at e29;rw[show g2.getD 15 undef=undef by rw[kept 15 dA,hT2];rfl] at e29;rw[show g2.getD 16 undef=undef by rw[kept 16 dA,hT2];rfl] at e29;rw[show g2.getD 17 undef=undef by rw[kept 17 dA,hT2];rfl] at e29;rw[show g2.getD 18 undef=undef by rw[kept 18 dA,hT2];rfl] at e29;rw[show g2.getD 19 undef=undef by rw[kept 19 dA,hT2];rfl] at e29;rw[show g2.getD 20 undef=undef by rw[kept 20 dA,hT2];rfl] at e29;rw[show g2.getD 21 undef=undef by rw[kept 21 dA,hT2];rfl] at e29;rw[show g2.getD 22 undef=undef by rw[kept 22 dA,hT2];rfl] at e29;rw[show g2.getD 23 undef=undef by rw[kept 23 dA,hT2];rfl] at e29;rw[show g2.getD 24 undef=undef by rw[kept 24 dA,hT2];rfl] at e29;rw[show g2.getD 25 undef=undef by rw[kept 25 dA,hT2];rfl] at e29;rw[show g2.getD 26 undef=undef by rw[kept 26 dA,hT2];rfl] at e29;rw[show g2.getD 27 undef=undef by rw[kept 27 dA,hT2];rfl] at e29;rw[show g2.getD 28 undef=undef by rw[kept 28 dA,hT2];rfl] at e29;rw[q1] at e29;rw[<-e29] at this;exact this
end
section
open Go.ConcN (WgLive)
open Go.ConcR (WgAt)
open Zn (tp)
open Go.Mc (Pz lZ R0 D0 W0 Spawns Fin oO nX Works)
variable[Go.ConcR.Payload]
abbrev VF:Oper:={dst:=some 12,op:=.alloc 143,type:=0,pos:= "keydir.go:115",after:=#[],guard:=none}
abbrev VE:Oper:={dst:=some 13,op:=.alloc 149,type:=0,pos:= "keydir.go:116",after:=#[],guard:=none}
abbrev Ei:Array Oper:=#[{dst:=some 70,op:=.load 128 (.tmp 6),type:=128,pos:= "keydir.go:117",after:=#[],guard:=none},
 {dst:=some 71,op:=.call {callee:=.builtin .len,args:=#[.tmp 70],argTypes:=#[128]},type:=3,pos:= "keydir.go:117",after:=#[{on:=0,ground:=.data}],guard:=none},
 {dst:=some 72,op:=.move (.const (.int .i64 0)),type:=3,pos:= "keydir.go:117",after:=#[],guard:=none}]
def c8t:I8 6=.seq (.region 16 #[VF] false) (I8 7):=rfl
def c8u:I8 7=.seq (.region 17 #[VE] false) (I8 8):=rfl
def c8v:I8 8=.seq (.seq (.region 18 Ei false) (.block 2 (.loop Jv))) (I8 9):=rfl
theorem gp(ρ:Operand->Value)(w:aB):(execOp ρ VF).run prog w=.ok (.value (.pointer (some w))) (w.alloc (.cells #[.int .i64 0] 143))/\(execOp ρ VF).events prog w #[]=#[]:=by constructor<;>simp[go_sem]
theorem gh(ρ:Operand->Value)(w:aB):(execOp ρ VE).run prog w=.ok (.value (.pointer (some w))) (w.alloc (.cells #[.int .u64 0,.int .u32 0] 149))/\(execOp ρ VE).events prog w #[]=#[]:=by constructor<;>simp[go_sem]
theorem py{ρ:Operand->Value}{a:Option Addr}{n c:Nat}(h:ρ (.tmp 70)=.slice a n c)(w:aB):(execOp ρ Ei[1]).run prog w=.ok (.value (.int .i64 n)) w/\(execOp ρ Ei[1]).events prog w #[]=#[]:=by constructor<;>simp[go_sem,h]
theorem c0T{ρ:Operand->Value}{ad:Addr}(h:ρ (.tmp 6)=.pointer (some ad)){w:aB}(c:w.cell? ad=some v):(execOp ρ Ei[0]).run prog w=.ok (.value v) w/\(execOp ρ Ei[0]).events prog w #[]=#[⟨.cell ad,false,false⟩]:=by constructor<;>simp[go_sem,h,c]
section
variable{P:Program}{B:Nat}{b:Frame}{a:Act}{k:List Item}{cs:List Frame}{w:World}{Sh:Nat->Prop}{Ψ:Goroutine->World->(Nat->Prop)->Prop}
theorem px[To.Lo]{ops:Array Oper}{i:Nat}{rest:List Nat}(g:ops[i]?=some o)(d:Region.wanted o (yielded ops a.tmps)=true)(f:b.kind≠.early)(j:∀w,(execOp a.eval o).events P w #[]=#[])
 (h:∀τ p,∃v w',(execOp a.eval o).run P (tp w τ p)=.ok (.value v) w'/\pG P B (G (b.at (a.put o.dst v) (.inRegion ops rest::k)) cs) w' Sh Ψ):pG P B (G (b.at a (.inRegion ops (i::rest)::k)) cs) w Sh Ψ:=by
 refine pG.step rfl λτ p=>?_;let⟨v,w',e,l⟩:=h τ p;refine⟨_,w',_,B,stepG_value g d f e,ak _,?_,l⟩;rw[show listed P _ a o _=#[] by unfold listed;rw[j];rfl];simp
end
section
variable{Z:Pz}{j:Nat}{Next Next':Option Nat->Goroutine->World->Prop}{x:Option Nat}{g:Goroutine}{w:World}{A A':Goroutine->World->Prop}
open Mc
def b7r(h:∀x g w,Next x g w->Next' x g w)(k:AtGoS Z j Next x g w):AtGoS Z j Next' x g w:=let ⟨a,b,f,c,m,l,e,i,d⟩:=k;⟨a,b,f,c,m,l,e,i,h _ _ _ d⟩
def b7s(h:∀x g w,Next x g w->Next' x g w)(k:AtKeS Z j Next x g w):AtKeS Z j Next' x g w:=let ⟨a,d,b,c⟩:=k;⟨a,d,b,vw (λ_ _ _=>b7r h) c⟩
def c0U(h:∀x g w,Next x g w->Next' x g w)(k:AtA1 Z j Next x g w):AtA1 Z j Next' x g w:=let ⟨a,b⟩:=k;⟨a,λv e f=>let ⟨i,c,d⟩:=b v e f;⟨i,c,vw (λ_ _ _=>b7s h) d⟩⟩
def b7t(h:∀x g w,Next x g w->Next' x g w)(k:AtKdS Z j Next x g w):AtKdS Z j Next' x g w:=let ⟨a,d,b,c⟩:=k;⟨a,d,b,vw (λ_ _ _=>c0U h) c⟩
theorem b5y(h:∀g w,A g w->A' g w):∀(r:Nat)(x:Option Nat)(g:iY)(w:aB),Spawns Z (Fin Z A) r x g w->Spawns Z (Fin Z A') r x g w:=by
 intro r
 induction r with
 | zero=>exactλx g w⟨a,b⟩=>⟨a,vw (λ_ _ _=>xd h) b⟩
 | succ r c=>exactλx g w k=>vw (λ_ _ _=>b7t c) k
end
noncomputable def qR(w:World)(Sh:Nat->Prop)(Cb fb:Nat)(v0:Value)(n:Nat)(ni:Nat->Nat->(Nat->Prop)->World->Prop):Pz:=
 {P:=prog,ty:=149,Wg:=w.heap.size+1,Al:=w.heap.size,gw:=143,Cb:=Cb,JQ:=154,c:=0,n:=n,L0:=w.heap.size+2,oZ:=λb=>b<w.heap.size/\b≠Cb/\¬Sh b,zD:=Sh,ni:=ni,e0:=fb,v0:=v0}
section
variable{Z:Pz}{c d:Nat}{T0:Array Value}{V4 V6 lF:Value}{K:List Item}{cs:List Frame}{x:Option Nat}{w w':World}{g:Goroutine}
def c6L(h:R0 (at_ Z c) x w w'):R0 (at_ Z d) x w w':=⟨h.size,h.jQ,h.cur,h.live,h.AZ⟩
def vB{T:dU}{j:Nat}(h:Lay (at_ Z c) T0 V4 V6 lF T j):Lay (at_ Z d) T0 V4 V6 lF T j:=⟨h.size,h.t4,h.t6,h.t11,h.t12,h.t13,h.t71,h.t72,h.keep⟩
def zE{qC:aB}(h:Jc (at_ Z c) qC T0 V4 V6 lF K cs g w):Jc (at_ Z d) qC T0 V4 V6 lF K cs g w:=have⟨T,f,b,j,i,e,a⟩:=h;⟨T,vB f,b,j,i,e,c6L a.1,a.2⟩
def c0V(h:Zm (at_ Z c) T0 V4 V6 lF K cs g w):Zm (at_ Z d) T0 V4 V6 lF K cs g w:=let ⟨T,a,b⟩:=h;⟨T,vB a,b⟩
end
section
variable{w:World}{Sh:Nat->Prop}{Cb fb n:Nat}{fa:Option Addr}{fc:Nat}{ni:Nat->Nat->(Nat->Prop)->World->Prop}{V4 lF:Value}{K:List Item}{cs:List Frame}{T:Array Value}{Ψ:Goroutine->World->(Nat->Prop)->Prop}
theorem ge{v0:Value}(f:∀b,Sh b->b<w.heap.size)(u:Cb<w.heap.size)(m:¬Sh Cb)(g:fb<w.heap.size)(q:¬Sh fb)(j:fb≠Cb)
 (d:∀i bx O a w2,a.heap.size<=w2.heap.size->w2.heap[bx]?=a.heap[bx]?->(∀b,O b->w2.heap[b]?=a.heap[b]?)->(∀k,Mc.jW i k->w2.cell? ⟨Cb,k,none⟩=a.cell? ⟨Cb,k,none⟩)->ni i bx O a->ni i bx O w2){c:Nat}(p:0<c):lZ (at_ (qR w Sh Cb fb v0 n ni) c):=by
 refine⟨p,?_,?_,?_,?_,?_,?_,?_,?_,?_,d⟩
 show w.heap.size+1≠w.heap.size;omega
 show w.heap.size+1≠Cb;omega
 show w.heap.size≠Cb;omega
 show w.heap.size+1<w.heap.size+2;omega
 show w.heap.size<w.heap.size+2;omega
 show Cb<w.heap.size+2;omega
 rintro b ⟨s,o,l⟩;exact⟨show b<w.heap.size+2 by omega,show b≠w.heap.size+1 by omega,show b≠w.heap.size by omega,o,l⟩
 intro b h;have:=f b h;exact⟨show b<w.heap.size+2 by omega,show b≠w.heap.size+1 by omega,show b≠w.heap.size by omega,λe=>m (have r:b=Cb:=e;r▸h)⟩
 trivial
theorem b7u[To.Lo](hSh:∀b,Sh b->b<w.heap.size)(X:w.heap[fb]?=some (.cells #[.slice fa n fc] 128))(ow:¬Sh fb)(YO:∃q:Array Value,w.heap[Cb]?=some (.cells q 154)/\q.size=2*n)(ox:¬Sh Cb)(z:fb≠Cb)(hn:n<2147483648)
 (P:∀i bx O a w2,a.heap.size<=w2.heap.size->w2.heap[bx]?=a.heap[bx]?->(∀b,O b->w2.heap[b]?=a.heap[b]?)->(∀k,Mc.jW i k->w2.cell? ⟨Cb,k,none⟩=a.cell? ⟨Cb,k,none⟩)->ni i bx O a->ni i bx O w2)
 (hT:T.size=118)(h4:T[4]?=some V4)(h6:T[6]?=some (.pointer (some ⟨fb,0,none⟩)))(h11:T[11]?=some lF)
 (vV:∀c i b w',0<c->i<n->w.heap.size+2<=b->(∀e,e<w.heap.size->e≠Cb->¬Tr Sh e->w'.heap[e]?=w.heap[e]?)->w'.heap[b]?=some (.cells #[.int .i64 i] 3)->oO (qR w (Tr Sh) Cb fb (.slice fa n fc) n ni) w'->nX (qR w (Tr Sh) Cb fb (.slice fa n fc) n ni) w'->
   WgLive 149 (w.heap.size+1) w'->Works (at_ (qR w (Tr Sh) Cb fb (.slice fa n fc) n ni) c) i b (born prog (Zl (qR w (Tr Sh) Cb fb (.slice fa n fc) n ni) V4 (.pointer (some ⟨fb,0,none⟩)) lF b)) w')
 (v:∀(w':World)(T':Array Value)(O:Nat->Nat->Prop)(bx:Nat->Nat),Lay (qR w (Tr Sh) Cb fb (.slice fa n fc) n ni) T V4 (.pointer (some ⟨fb,0,none⟩)) lF T' n->(∀e,e<w.heap.size->e≠Cb->w'.heap[e]?=w.heap[e]?)->(∀i,i<n->ni i (bx i) (O i) w')->
   (∀i b,O i b->w.heap.size+2<=b/\b<w'.heap.size)->(∀i k b,O i b->O k b->i=k)->oO (qR w (Tr Sh) Cb fb (.slice fa n fc) n ni) w'->nX (qR w (Tr Sh) Cb fb (.slice fa n fc) n ni) w'->w.heap.size+2<=w'.heap.size->w'.os=w.os->w'.output=w.output->
   ∃l:Nat->Prop,(∀b,Sh b->l b)/\l (w.heap.size+1)/\To prog (G (joined T' K) cs) w' l Ψ):
 To prog (G ((base 14).at ⟨T,[]⟩ (.code (I8 6)::K)) cs) w Sh Ψ:=by
 have r:fb<w.heap.size:=Bi.lt_of_some X;obtain⟨q,Vh,R⟩:=YO;have B_:¬Tr Sh fb:=λhs=>ow hs.2;have zU:Cb<w.heap.size:=Bi.lt_of_some Vh;rw[c8t];refine pG.move rfl (λ_=>stepG_seq) (pG.move rfl (λ_=>stepG_region) ?_);refine px (i:=0) (rest:=[]) (o:=VF) rfl rfl (by decide) (λw=>(gp _ w).2) λτ p=>⟨_,tp (w.alloc (.cells #[.int .i64 0] 143)) τ p,(gp _ _).1,pG.eU ?_⟩;have Y:Act.put ⟨T,[]⟩ VF.dst (.pointer (some ⟨(tp w τ p).heap.size,0,none⟩))=⟨T.setIfInBounds 12 (.pointer (some ⟨w.heap.size,0,none⟩)),[]⟩:=rfl;rw[Y];clear Y;have j:(T.setIfInBounds 12 (.pointer (some ⟨w.heap.size,0,none⟩)))[12]?=some (.pointer (some ⟨w.heap.size,0,none⟩)):=zx (by omega);have M:=D8 (u:=.pointer (some ⟨w.heap.size,0,none⟩)) (j:=12) h4 (by decide);have H:=D8 (u:=.pointer (some ⟨w.heap.size,0,none⟩)) (j:=12) h6 (by decide);have m:=D8 (u:=.pointer (some ⟨w.heap.size,0,none⟩)) (j:=12) h11 (by decide);have f:(T.setIfInBounds 12 (.pointer (some ⟨w.heap.size,0,none⟩))).size=118:=by simp[hT]
 have L:=WX (T:=T) (T0:=T) (λ_ _=>rfl) 12 (by decide) (.pointer (some ⟨w.heap.size,0,none⟩));generalize T.setIfInBounds 12 (.pointer (some ⟨w.heap.size,0,none⟩))=F at j M H m f L⊢;have z1:=Qd w (.cells #[.int .i64 0] 143);have n1:=rT w (.cells #[.int .i64 0] 143);have o1:=λb=>PY w (.cells #[.int .i64 0] 143) (b:=b);have C:(w.alloc (.cells #[.int .i64 0] 143)).os=w.os:=rfl;have kq:(w.alloc (.cells #[.int .i64 0] 143)).output=w.output:=rfl;generalize w.alloc (.cells #[.int .i64 0] 143)=a at z1 n1 o1 C kq⊢;rw[c8u];refine pG.move rfl (λ_=>stepG_region_end) (pG.move rfl (λ_=>stepG_seq) (pG.move rfl (λ_=>stepG_region) ?_));refine px (i:=0) (rest:=[]) (o:=VE) rfl rfl (by decide) (λw=>(gh _ w).2) λτ p=>⟨_,tp (a.alloc (.cells #[.int .u64 0,.int .u32 0] 149)) τ p,(gh _ _).1,pG.eU ?_⟩;have Y:Act.put ⟨F,[]⟩ VE.dst (.pointer (some ⟨(tp a τ p).heap.size,0,none⟩))=⟨F.setIfInBounds 13 (.pointer (some ⟨a.heap.size,0,none⟩)),[]⟩:=rfl;rw[Y];clear Y;rw[z1];have J:(F.setIfInBounds 13 (.pointer (some ⟨w.heap.size+1,0,none⟩)))[13]?=some (.pointer (some ⟨w.heap.size+1,0,none⟩)):=zx (by omega);replace M:=D8 (u:=.pointer (some ⟨w.heap.size+1,0,none⟩)) (j:=13) M (by decide);replace H:=D8 (u:=.pointer (some ⟨w.heap.size+1,0,none⟩)) (j:=13) H (by decide);replace m:=D8 (u:=.pointer (some ⟨w.heap.size+1,0,none⟩)) (j:=13) m (by decide);replace j:=D8 (u:=.pointer (some ⟨w.heap.size+1,0,none⟩)) (j:=13) j (by decide);replace f:(F.setIfInBounds 13 (.pointer (some ⟨w.heap.size+1,0,none⟩))).size=118:=by simp[f]
 replace L:=WX L 13 (by decide) (.pointer (some ⟨w.heap.size+1,0,none⟩));generalize F.setIfInBounds 13 (.pointer (some ⟨w.heap.size+1,0,none⟩))=T2 at J j M H m f L⊢;have z2:=Qd a (.cells #[.int .u64 0,.int .u32 0] 149);have n2:=rT a (.cells #[.int .u64 0,.int .u32 0] 149);have o2:=λb=>PY a (.cells #[.int .u64 0,.int .u32 0] 149) (b:=b);have B:(a.alloc (.cells #[.int .u64 0,.int .u32 0] 149)).os=a.os:=rfl;have kj:(a.alloc (.cells #[.int .u64 0,.int .u32 0] 149)).output=a.output:=rfl;generalize a.alloc (.cells #[.int .u64 0,.int .u32 0] 149)=w2 at z2 n2 o2 B kj⊢;rw[z1] at n2;have o:∀b,b<w.heap.size->w2.heap[b]?=w.heap[b]?:=λb N=>(o2 b (by omega)).trans (o1 b N);have hAl:w2.heap[w.heap.size]?=some (.cells #[.int .i64 0] 143):=(o2 _ (by omega)).trans n1;have hsz:w2.heap.size=w.heap.size+2:=by omega
 have hos:w2.os=w.os:=B.trans C;have hou:w2.output=w.output:=kj.trans kq;clear C kq B kj z1 n1 o1 z2 o2 a F;rw[c8v];refine pG.move rfl (λ_=>stepG_region_end) (pG.move rfl (λ_=>stepG_seq) ?_);have hZ:=λc I=>ge (w:=w) (Sh:=Tr Sh) (Cb:=Cb) (fb:=fb) (n:=n) (ni:=ni) (v0:=.slice fa n fc) (λb N=>hSh b N.2) zU (λhs=>ox hs.2) r B_ z P (c:=c) I;have S:WgAt 149 (w.heap.size+1) w2 0 0:=n2;refine pG.phase (Z:=qR w (Tr Sh) Cb fb (.slice fa n fc) n ni) (Sh:=Sh) (B:=w.heap.size) (Cont:=Zm (at_ (qR w (Tr Sh) Cb fb (.slice fa n fc) n ni) 1) T V4 (.pointer (some ⟨fb,0,none⟩)) lF K cs)
  (AnchW:=λg w'=>∃qC,Jc (at_ (qR w (Tr Sh) Cb fb (.slice fa n fc) n ni) 1) qC T V4 (.pointer (some ⟨fb,0,none⟩)) lF K cs g w') rfl hZ hn rfl (by show w.heap.size<=w.heap.size+2;omega) (by show w.heap.size<=w.heap.size+1;omega) (ak _)
  (by show w.heap.size+2<=_;omega) ⟨0,hAl⟩ ⟨q,(o _ zU).trans Vh,R⟩ S (λg w⟨_,h⟩=>c0O g w h) ?_ ?_ ?_
 ·rintro c I x g w' ⟨qC,h⟩;exact vw (λy g w=>xe (λg w=>c0V) λg w h=>⟨qC,zE h⟩) (c0P (hZ c I) rfl rfl g w' (zE h))
 ·intro c τ p I;have YF:=hZ c I;have W:(T2.setIfInBounds 70 (.slice fa n fc))[70]?=some (.slice fa n fc):=zx (by omega);have hl:Lay (at_ (qR w (Tr Sh) Cb fb (.slice fa n fc) n ni) c) T V4 (.pointer (some ⟨fb,0,none⟩)) lF (((T2.setIfInBounds 70 (.slice fa n fc)).setIfInBounds 71 (.int .i64 n)).setIfInBounds 72 (.int .i64 0)) 0:=by
   refine⟨by simp[f],?_,?_,?_,?_,?_,?_,?_,WX (WX (WX L 70 (by decide) _) 71 (by decide) _) 72 (by decide) _⟩
   ·exact D8 (D8 (D8 M (by decide)) (by decide)) (by decide)
   ·exact D8 (D8 (D8 H (by decide)) (by decide)) (by decide)
   ·exact D8 (D8 (D8 m (by decide)) (by decide)) (by decide)
   ·exact D8 (D8 (D8 j (by decide)) (by decide)) (by decide)
   ·exact D8 (D8 (D8 J (by decide)) (by decide)) (by decide)
   ·exact D8 (zx (by simp[f])) (by decide)
   ·exact zx (by simp[f])
  have hh:=c0S (K:=K) (cs:=cs) YF rfl rfl hn (qC:=tp w2 τ p) (T0:=T) (V4:=V4) (V6:=.pointer (some ⟨fb,0,none⟩)) (lF:=lF) (by show w.heap.size+2<=w2.heap.size;omega)
   (λi b w' hi N hr hbx A t hlv=>vV c i b w' I hi N (λe D V U=>(hr.jQ e ⟨D,V,U⟩).trans (o e D)) hbx A t hlv) n 0 _ (tp w2 τ p) (nS n) hl ⟨Mc.R0.refl _ _ _,⟨0,0,S⟩⟩
  refine b5y (λg w h=>⟨tp w2 τ p,zE h⟩) _ _ _ _ (PH (λStop hk=>?_) hh);clear hh;refine J8 rfl (λ_=>stepG_seq) (J8 rfl (λ_=>stepG_region) ?_);refine fi (i:=0) (rest:=[1,2]) (o:=Ei[0]) rfl rfl (by decide) λd s=>?_;have Q:=(s.jQ fb ⟨r,z,B_⟩).trans ((o fb r).trans X);have E:d.cell? ⟨fb,0,none⟩=some (.slice fa n fc):=by simp[World.cell?,Q]
  have Z:=c0T (J5 (ds:=[]) H) E;refine⟨_,d,none,Z.1,⟨ak _,rfl,rfl,rfl,λ_ _ _=>rfl,.inl rfl,?_⟩,?_⟩
  ·rw[show listed (at_ (qR w (Tr Sh) Cb fb (.slice fa n fc) n ni) c).P (base 14).fn ⟨T2,[]⟩ Ei[0] d=#[⟨.cell ⟨fb,0,none⟩,false,false⟩] by show listed prog (base 14).fn ⟨T2,[]⟩ Ei[0] d=_;unfold listed;rw[Z.2,seen_eq gx (by simp)]];intro e he;rw[uU] at he;subst he;exact⟨Bi.lt_of_some Q,rfl,.inl ⟨⟨r,z,B_⟩,rfl⟩⟩
  ·replace hk:=md hk s;refine MC (i:=1) (rest:=[2]) (o:=Ei[1]) rfl rfl (by decide) (λw=>(py (J5 (ds:=[]) W) w).1) (λw=>(py (J5 (ds:=[]) W) w).2) ?_;refine MC (i:=2) (rest:=[]) (o:=Ei[2]) (v:=.int .i64 0) rfl rfl (by decide) (λw=>rfl) (λw=>rfl) ?_;exact J8 rfl (λ_=>stepG_region_end) (J8 rfl (λ_=>stepG_block) (J8 rfl (λ_=>stepG_loop) hk))
 ·intro w' g' O bx ⟨T',hT',hm⟩ he hr hO hd A t hL0 mh me;obtain⟨l,D,V,U⟩:=v w' T' O bx (vB (c:=1) (d:=0) hT') (λe D V=>(he e ((Classical.em (Tr Sh e)).symm.imp (λU=>⟨D,V,U⟩) id)).trans (o e D)) hr hO hd A t hL0 (mh.trans hos) (me.trans hou);exact⟨l,D,V,c7a hm U⟩
end
end
section
open Go.ConcN (WgLive Has AtR0)
open Zn (ext low kk Gr K0 Nx Full tp kH Zf)
open To (at_)
variable{w:aB}{a c:fC}
variable[Go.ConcR.Payload]
structure Ph(w:World)(Sh:Nat->Prop)(Cb fb rb n fc mb sx sb ic c1 c2:Nat)(ids:List Int)(bss:List (List UInt8))(DB:Nat->Prop):Prop where
 W:kH zone Sh w
 gl:prog.globals.size<=w
 hn:n<2147483648/\n<=fc/\n<=c1/\(0<n->n<=c2)
 bi:w.heap[fb]?=some (.cells #[.slice (some ⟨rb,0,none⟩) n fc] 128)
 NS:DB fb
 hDB:∀b,DB b->prog.globals.size<=b/\b<w.heap.size/\b≠Cb/\¬Sh b/\∃c e fr,w.heap[b]?=some (.cells c e fr)/\∀v∈c,Plain DB v
 files:∀i,i<n->∃v,w.cell? ⟨rb,i,none⟩=some v/\Bytes w v (bss.getD i [])/\(bss.getD i []).length<=1099511627776
 hmb:mb<w/\mb≠Cb/\¬Sh mb/\(0<n->w.cell? ⟨mb,1,none⟩=some (.slice (some ⟨ic,0,none⟩) n c2))
 hsx:sx<w/\sx≠Cb/\¬Sh sx/\w.cell? sx=some (.pointer (some sb))
 hsb:sb<w/\sb≠Cb/\¬Sh sb/\w.cell? ⟨sb,3,none⟩=some (.slice (some ⟨Cb,0,none⟩) n c1)
 hic:0<n->ic<w/\ic≠Cb/\¬Sh ic/\∀i,i<n->w.cell? ⟨ic,i,none⟩=some (.int .i64 (ids.getD i 0))
 hcb:¬Sh Cb/\∃cs0:Array Value,w.heap[Cb]?=some (.cells cs0 154)/\cs0.size=2*n
def yY(w:aB)(Sh:tyP)(Cb:Nat)(a:fC)(bss:fJ)(i bx:Nat)(O:tyP)(w':aB):Prop:=
 w'.cell? ⟨Cb,2*i,none⟩=some (.int .i64 (a.getD i 0))/\
 (∃u,w'.cell? ⟨Cb,2*i+1,none⟩=some u/\oP w' 160 7 u (D7 (bss.getD i [])).length ((D7 (bss.getD i [])).flatMap (O6 i))/\∀g,u.ownBlock=some g->O g)/\
 (∀b,O b->∃o,w'.heap[b]?=some o/\Zn.je {zone with D:=λb=>(b<w.heap.size/\b≠Cb/\¬Sh b)\/b=bx\/O b} o)/\w.heap.size+2<=bx/\w'.heap[bx]?=some (.cells #[.int .i64 i] 3)
theorem ym{Sh:tyP}{Cb:Nat}{bss:fJ}:∀i bx O(a w2:aB),a.heap.size<=w2->w2.heap[bx]?=a.heap[bx]?->(∀b,O b->w2.heap[b]?=a.heap[b]?)->(∀k,jW i k->w2.cell? ⟨Cb,k,none⟩=a.cell? ⟨Cb,k,none⟩)->yY w Sh Cb c bss i bx O a->yY w Sh Cb c bss i bx O w2:=by rintro i bx O a w2 _ q d f ⟨s,⟨u,l,r,e⟩,p,t,m⟩;exact⟨(f _<|.inl rfl).trans s,⟨u,(f _<|.inr rfl).trans l,r.keep λg n=>d g<|e g n,e⟩,λb h=>let ⟨o,v,j⟩:=p b h;⟨o,(d b h).trans v,j⟩,t,q.trans m⟩
abbrev pS:Oper:={dst:=none,op:=.defer {callee:=.value (.func 60),args:=#[.tmp 0],argTypes:=#[149]},type:=0,pos:= "keydir.go:120",after:=#[],guard:=none}
def c0z:vg 0=.seq (.region 0 #[pS] false) (vg 1):=rfl
def c0A:vg 1=.seq kP (vg 2):=rfl
theorem c0B{Sh l:tyP}(p:∀b,l b->Sh b){Cb fb rb n j m t sb ic c1 c2:Nat}{bss:fJ}{DB:tyP}(h:Ph w Sh Cb fb rb n j m t sb ic c1 c2 a bss DB){c i b:Nat}{w':aB}(hc:0<c)(T:i<n)(hb:w.heap.size+2<=b)
 (nE:∀e,e<w.heap.size->e≠Cb->¬l e->w'.heap[e]?=w.heap[e]?)(C:w'.heap[b]?=some (.cells #[.int .i64 i] 3))(P:oO (qR w l Cb fb (.slice (some ⟨rb,0,none⟩) n j) n (yY w Sh Cb a bss)) w')(L:nX (qR w l Cb fb (.slice (some ⟨rb,0,none⟩) n j) n (yY w Sh Cb a bss)) w')(hlv:WgLive 149 (w+1) w'):
 Works (at_ (qR w l Cb fb (.slice (some ⟨rb,0,none⟩) n j) n (yY w Sh Cb a bss)) c) i b (born prog (Zl (qR w l Cb fb (.slice (some ⟨rb,0,none⟩) n j) n (yY w Sh Cb a bss)) (.pointer (some m)) (.pointer (some fb)) (.pointer (some t)) b)) w':=by
 obtain⟨hCS,cs0,hC0,hCs⟩:=h.hcb;obtain⟨df1,E,df3,R,-⟩:=h.hDB fb h.NS;have hZ:lZ (at_ (qR w l Cb fb (.slice (some ⟨rb,0,none⟩) n j) n<|yY w Sh Cb a bss) c):=ge (λb hb=>h.W.sh b<|p b hb) (Bi.lt_of_some hC0:Cb<w) (λF=>hCS<|p _ F) E (λF=>R<|p _ F) df3 ym hc;have hL0:(at_ (qR w l Cb fb (.slice (some ⟨rb,0,none⟩) n j) n<|yY w Sh Cb a bss) c).L0=w+2:=rfl;have z:∀e,(e<w.heap.size/\e≠Cb/\¬Sh e)->(at_ (qR w l Cb fb (.slice (some ⟨rb,0,none⟩) n j) n<|yY w Sh Cb a bss) c).oZ e:=λe A=>⟨A.1,A.2.1,λF=>A.2.2<|p e F⟩;have J:∀e,e<w.heap.size->e≠Cb->¬Sh e->w'.heap[e]?=w.heap[e]?:=λe h1 h2 h3=>nE e h1 h2 λF=>h3<|p e F;obtain⟨Z,d⟩:∃Z,Z=at_ (qR w l Cb fb (.slice (some ⟨rb,0,none⟩) n j) n<|yY w Sh Cb a bss) c:=⟨_,rfl⟩;have zP:Z.P=prog:=by rw[d];rfl
 have zt:Z.ty=149:=by rw[d];rfl
 have zC:(3:bT)≠Z.JQ:=by rw[d];show(3:Nat)≠154;decide
 have zn:Z.n=n:=by rw[d];rfl
 have gd:Z.Cb=Cb:=by rw[d];rfl
 have zWg:Z.Wg=w+1:=by rw[d];rfl
 have zAl:Z.Al=w.heap.size:=by rw[d];rfl
 have ze0:Z.e0=fb:=by rw[d];rfl
 have zv0:Z.v0=.slice (some ⟨rb,0,none⟩) n j:=by rw[d];rfl
 have zR:Z.ni=yY w Sh Cb a bss:=by rw[d];rfl
 have IL:Zl (qR w l Cb fb (.slice (some ⟨rb,0,none⟩) n j) n<|yY w Sh Cb a bss) _ _ _ b =
  {target:=.fn (.func 59) #[.pointer (some (w+1:Nat)),.pointer<|some b,.pointer<|some fb,.pointer<|some m,.pointer<|some t,.pointer<|some w],args:=#[]}:=rfl
 rw[IL];have zal:oO Z w':=by rw[d];exact P
 have zcb:nX Z w':=by rw[d];exact L
 rw[<-d] at hZ hL0 z⊢;clear P L IL;clear d;have hbl:b<w'.heap.size:=Bi.lt_of_some C;have f:Nw Z (λ_=>False) w':=λ_ h=>h.elim;unfold Works;refine G_ f rfl (λw=>by rw[zP];exact born_step _ w) ?_;have e29:(29:Nat) - (#[.pointer (some (w+1:Nat)),.pointer<|some b,.pointer<|some fb,.pointer<|some m,.pointer<|some t,.pointer<|some w]:dU).size=23:=rfl;rw[e29,c0z];have eT:(#[.pointer (some (w+1:Nat)),.pointer<|some b,.pointer<|some fb,.pointer<|some m,.pointer<|some t,.pointer<|some w]:dU)++Array.replicate 23 undef=#[.pointer (some (w+1:Nat)),.pointer<|some b,.pointer<|some fb,.pointer<|some m,.pointer<|some t,.pointer<|some w,undef,undef,undef,undef,undef,undef,undef,undef,undef,undef,undef,undef,undef,undef,undef,undef,undef,undef,undef,undef,undef,undef,undef]:=by simp only[iJ,iI,jA,iO,eF,List.cons_append]
 rw[eT];obtain⟨D,B⟩:∃D:dU,D=#[.pointer (some (w+1:Nat)),.pointer<|some b,.pointer<|some fb,.pointer<|some m,.pointer<|some t,.pointer<|some w,undef,undef,undef,undef,undef,undef,undef,undef,undef,undef,undef,undef,undef,undef,undef,undef,undef,undef,undef,undef,undef,undef,undef]:=⟨_,rfl⟩;rw[<-B];have t0:D[0]?=some (.pointer<|some (w+1:Nat)):=by rw[B];rfl
 have ea:(#[.tmp 0]).map (Act.eval ⟨D,[]⟩)=#[.pointer (some (w+1:Nat))]:=by simp only[fM,bD,dS];rw[J5 t0]
 refine G_ f rfl (λ_=>stepG_seq)<|G_ f rfl (λ_=>stepG_region) ?_;refine G_ f rfl (λ_=>stepG_defer (o:=pS) rfl (rfl) dA rfl)<|G_ f rfl (λ_=>stepG_region_end) ?_;rw[show Act.put _ pS.dst undef=⟨D,[dcall 60 _]⟩ from by rw[ea];rfl];rw[c0A];refine G_ f rfl (λ_=>stepG_seq) ?_;obtain⟨v,hv1,hv2,Y⟩:=h.files i T;have nh:w.cell? fb=some (.slice (some ⟨rb,0,none⟩) n j):=by simp[World.cell?,h.bi]
 obtain⟨n1,n2,n3,n4⟩:=h.hn;have G:0<n:=aj
 obtain⟨i1,i2,i3,i4⟩:=h.hic G;have M:=c6A (Stop:=Yv Z i b) hZ zP h.W (.pointer<|some (w+1:Nat)) (.pointer<|some ⟨m,0,none⟩) (.pointer<|some ⟨t,0,none⟩) (.pointer<|some ⟨w,0,none⟩) [dcall 60 #[.pointer (some (w+1:Nat))]]
  (DB:=DB) (λe A=>have⟨d1,N,W,V,d5⟩:=h.hDB e A;⟨d1,N,z e ⟨N,W,V⟩,J e N W V,d5⟩) h.NS R nh ⟨T,n2,n1⟩ hv1 hv2 Y C ⟨aj,aj⟩ aj aj h.gl ?_
 rw[<-B] at M;exact M
 intro O u V2 x7 x8 x9 x x11 x12 H hN hOb I y Q mj;obtain⟨ua,uc,rfl⟩:=y.slice;have s:=λe k S X U=>ConcN.cell_of_block ((λe S X U=>(I.jQ e<|z e ⟨S,X,U⟩).trans<|J e S X U) e S X U) k;let⟨m1,m2,m3,m4⟩:=h.hmb;let⟨s1,s2,s3,s4⟩:=h.hsx;let⟨t1,t2,t3,t4⟩:=h.hsb;have hw:HW Z i b O H m t sb ic c1 c2 (a.getD i 0) H:=by
  refine⟨hN,ak _,λ_ _=>rfl,⟨z _ ⟨m1,m2,m3⟩,z _ ⟨s1,s2,s3⟩,z _ ⟨t1,t2,t3⟩,z _ ⟨i1,i2,i3⟩,iL⟩,aj,I.box.trans C,(s _ _ s1 s2 s3).trans s4,?_,?_,(s _ _ i1 i2 i3).trans<|i4 i T,I.cb zcb,I.al zal,I.live<|iL,?_⟩
  rw[gd,zn];exact(s _ _ t1 t2 t3).trans t4
  rw[zn];exact(s _ _ m1 m2 m3).trans (m4 G)
  simp_all
 have r:=c0y hZ zP zt zC (by rw[zAl];omega) H V2 x7 x8 x9 x x11 x12 m t sb ic c1 c2 _ ua _ uc (λw4 K=>by
  rw[zR];refine⟨?_,⟨_,?_,y.keep λg hg=>K.hw.own g<|Q g hg,Q⟩,λe A=>?_,hb,K.hw.box⟩
  rw[<-gd];exact K.c0
  rw[<-gd];exact K.c1
  let⟨o,o1,o2⟩:=mj e A;exact⟨o,(K.hw.own e A).trans o1,o2.mono (by
   refine⟨rfl,rfl,rfl,?_⟩;rintro q (hq|hq)
   let⟨_,N,W,V,_⟩:=h.hDB q hq;exact .inl ⟨N,W,V⟩
   simp_all)⟩) H hw
 simp_all
end
end Go.Proofs.YtgpbhjjajpbeeaaGreatDoor
