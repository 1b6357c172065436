/- A part of what the last file proves. -/
import Derived.Test.YtgpbhjjajpbeeaaGreatDoorO17
set_option linter.all false
set_option maxRecDepth 100000
set_option maxHeartbeats 1600000
open Go.Proofs.Tryz
namespace Go.Proofs.YtgpbhjjajpbeeaaGreatDoor
section
open Go.RowKit Go.Conc Go.Conc.Lib Go.Mw Go.Mc
open Go.ConcN (WgLive)
set_option linter.unusedSectionVars false
section
variable(Z:Pz)(i bx:Nat)(O:Nat->Prop)
def D2(w w':World)(es:Array Event):Prop:=Nw Z O w->DW Z i bx O O w w' es
theorem O6:Terms (RW Z i bx O) (D2 Z i bx O):=⟨λ_ _ _ h k=>RW.trans Z h k,λw hN=>zJ hN (by simp)⟩
theorem xd:LetsDraw (D2 Z i bx O):=λw hN=>⟨aj _,rfl,rfl,rfl,λ_ _ _ _ _=>rfl,id,id,λ_ _=>rfl,λ_ h=>h,λ_ h=>.inl h,λb hb=>(hN b hb).2,by simp⟩
theorem zz(w:World):RW Z i bx O w {w with drawn:=w.drawn+1}:=⟨aj _,λ_ _=>rfl,rfl,λ_ _=>rfl,id,id,id,λ_ _=>rfl⟩
structure HW(w0:World)(mb sx sb ic c1 c2:Nat)(id:Int)(w:World):Prop where
 nw:Nw Z O w
 grow:w0.heap.size<=w.heap.size
 own:∀b,O b->w.heap[b]?=w0.heap[b]?
 iP:Z.lN mb/\Z.lN sx/\Z.lN sb/\Z.lN ic/\Z.lN Z.e0
 lt:i<Z.n/\Z.n<=c1/\Z.n<=c2/\Z.n<2147483648
 box:w.heap[bx]?=some (.cells #[.int .i64 i] 3)
 sx:w.cell? ⟨sx,0,none⟩=some (.pointer (some ⟨sb,0,none⟩))
 seg:w.cell? ⟨sb,3,none⟩=some (.slice (some ⟨Z.Cb,0,none⟩) Z.n c1)
 ids:w.cell? ⟨mb,1,none⟩=some (.slice (some ⟨ic,0,none⟩) Z.n c2)
 id:w.cell? ⟨ic,i,none⟩=some (.int .i64 id)
 cb:kS Z w
 al:kY Z w
 live:WgLive Z.ty Z.Wg w
 e0:w.cell? ⟨Z.e0,0,none⟩=some Z.v0
variable{Z i bx O}{w0:World}{mb sx sb ic c1 c2:Nat}{id:Int}{w w₁:World}
theorem HW.rely(h:HW Z i bx O w0 mb sx sb ic c1 c2 id w)(r:RW Z i bx O w w₁):HW Z i bx O w0 mb sx sb ic c1 c2 id w₁:=by
 obtain⟨e1,e2,e3,e4,e5⟩:=h.iP;exact⟨h.nw.rely r,ay h.grow r.size,λb hb=>(r.own b hb).trans (h.own b hb),h.iP,h.lt,r.box.trans h.box,(ConcN.cell_of_block (r.iP _ e2) _).trans h.sx,(ConcN.cell_of_block (r.iP _ e3) _).trans h.seg,(ConcN.cell_of_block (r.iP _ e1) _).trans h.ids,(ConcN.cell_of_block (r.iP _ e4) _).trans h.id,r.cb h.cb,r.al h.al,r.live h.live,(ConcN.cell_of_block (r.iP _ e5) _).trans h.e0⟩
theorem HW.wB(h:HW Z i bx O w0 mb sx sb ic c1 c2 id w):w.cell? ⟨bx,0,none⟩=some (.int .i64 i):=by simp[World.cell?,h.box]
theorem lt_of_cell{w:World}{a:Addr}{v:Value}(h:w.cell? a=some v):a.block<w.heap.size:=by
 unfold World.cell? at h
 cases e:w.heap[a.block]? with
 | none=>rw[e] at h;cases h
 | some o=>exact Bi.lt_of_some e
theorem Jz{w:World}{b k:Nat}{v:Value}(h:w.cell? ⟨b,k,none⟩=some v)(he:Z.lN b\/b=bx):EvW Z i bx O w.heap.size ⟨.cell ⟨b,k,none⟩,false,false⟩:=⟨lt_of_cell h,.inr ⟨rfl,.inr (.inr ⟨he,rfl⟩)⟩⟩
end
def qO(Z:Pz)(i bx:Nat)(O:Nat->Prop)(w0:World)(V5:Value)(mb sx sb ic c1 c2:Nat)(id:Int)(u:Value)(ds:List Deferred):Exit->Act->World->Prop
 | .normal,a,w=>HW Z i bx O w0 mb sx sb ic c1 c2 id w/\w.cell? ⟨Z.Cb,2*i,none⟩=some (.int .i64 id)/\w.cell? ⟨Z.Cb,2*i+1,none⟩=some u/\a.defers=ds/\a.tmps.size=29/\a.tmps[5]?=some V5/\a.tmps[6]?=some u
 | _,_,_=>False
theorem qO.rely{Z:Pz}{i bx:Nat}{O:Nat->Prop}{w0:World}{V5:Value}{mb sx sb ic c1 c2:Nat}{id:Int}{u:Value}{ds:List Deferred}{a:Act}{w w₁:World}(h:qO Z i bx O w0 V5 mb sx sb ic c1 c2 id u ds .normal a w)(r:RW Z i bx O w w₁):qO Z i bx O w0 V5 mb sx sb ic c1 c2 id u ds .normal a w₁:=by
 obtain⟨h1,h2,h3,h4⟩:=h;exact⟨h1.rely r,(r.cell _ (.inl rfl)).trans h2,(r.cell _ (.inr rfl)).trans h3,h4⟩
theorem bB(w:World)(a:Addr)(v:Value){b:Nat}(h:a.block≠b):(w.setCell a v).heap[b]?=w.heap[b]?:=by simp[World.setCell,aO,h]
theorem ZH(w:World)(a:Addr)(v:Value):(w.setCell a v).heap.size=w.heap.size:=by simp[World.setCell]
theorem b4X{Z:Pz}(w:World)(i:Nat)(v0 v1:Value)(hcb:kS Z w)(hi:i<Z.n):
 (∀b,b≠Z.Cb->((w.setCell ⟨Z.Cb,i*2,none⟩ v0).setCell ⟨Z.Cb,i*2+1,none⟩ v1).heap[b]?=w.heap[b]?)/\kS Z ((w.setCell ⟨Z.Cb,i*2,none⟩ v0).setCell ⟨Z.Cb,i*2+1,none⟩ v1)/\
 (∀k,¬iT i k->((w.setCell ⟨Z.Cb,i*2,none⟩ v0).setCell ⟨Z.Cb,i*2+1,none⟩ v1).cell? ⟨Z.Cb,k,none⟩=w.cell? ⟨Z.Cb,k,none⟩)/\
 ((w.setCell ⟨Z.Cb,i*2,none⟩ v0).setCell ⟨Z.Cb,i*2+1,none⟩ v1).cell? ⟨Z.Cb,2*i,none⟩=some v0/\((w.setCell ⟨Z.Cb,i*2,none⟩ v0).setCell ⟨Z.Cb,i*2+1,none⟩ v1).cell? ⟨Z.Cb,2*i+1,none⟩=some v1:=by
 obtain⟨cs,hcs,hsz⟩:=hcb;have h1:(w.setCell ⟨Z.Cb,i*2,none⟩ v0).heap[Z.Cb]?=some (.cells (cs.setIfInBounds (i*2) v0) Z.Fe):=by simp[World.setCell,aO,hcs]
 have h2:((w.setCell ⟨Z.Cb,i*2,none⟩ v0).setCell ⟨Z.Cb,i*2+1,none⟩ v1).heap[Z.Cb]?=some (.cells ((cs.setIfInBounds (i*2) v0).setIfInBounds (i*2+1) v1) Z.Fe):=by
  generalize w.setCell ⟨Z.Cb,i*2,none⟩ v0=w1 at h1;simp[World.setCell,aO,h1]
 refine⟨λb hb=>?_,⟨_,h2,by simp[hsz]⟩,λk hk=>?_,?_,?_⟩
 ·rw[bB _ _ _ (bP hb),bB _ _ _ (bP hb)]
 ·unfold iT at hk;have e1:i*2+1≠k:=by omega
  have e2:i*2≠k:=by omega
  simp only[World.cell?,h2,hcs];simp[aK e1,aK e2]
 ·simp only[World.cell?,h2];have e1:i*2+1≠2*i:=by omega
  have e2:i*2=2*i:=by omega
  simp only[lH,cu,if_false,aK e1];rw[e2,bT (by omega)]
 ·simp only[World.cell?,h2];have e2:i*2+1=2*i+1:=by omega
  simp only[lH,cu,if_false,e2];rw[bT (by simp;omega)]
noncomputable def Zj:Code:=Code.head (sN 2)
abbrev qD:Oper:={dst:=none,op:=.store 154 (.tmp 25) (.tmp 24),type:=0,pos:= "keydir.go:122",after:=#[{on:=12,ground:=.data},{on:=11,ground:=.data},{on:=0,ground:=.phase},{on:=1,ground:=.phase},{on:=2,ground:=.phase},{on:=3,ground:=.phase},{on:=4,ground:=.phase},{on:=5,ground:=.phase},{on:=6,ground:=.phase},{on:=7,ground:=.phase},{on:=8,ground:=.phase},{on:=9,ground:=.phase},{on:=10,ground:=.phase},{on:=11,ground:=.phase}],guard:=none}
theorem wt{Z:Pz}{i bx:Nat}{O:Nat->Prop}(w0:World)(hZ:jY Z)(Xm:(3:TypeId)≠Z.Fe)(V0 V2 V5 x7 x8 x9 x10 x11 x12:Value)(mb sx sb ic c1 c2:Nat)(id:Int)(ds:List Deferred)(ua:Option Addr)(um uc:Nat):∃N,∀w,HW Z i bx O w0 mb sx sb ic c1 c2 id w->
 Zj.wpC prog false (RW Z i bx O) (D2 Z i bx O) 59 N (qO Z i bx O w0 V5 mb sx sb ic c1 c2 id (.slice ua um uc) ds)
  ⟨#[V0,.pointer (some ⟨bx,0,none⟩),V2,.pointer (some ⟨mb,0,none⟩),.pointer (some ⟨sx,0,none⟩),V5,.slice ua um uc,x7,x8,x9,x10,x11,x12,undef,undef,undef,undef,undef,undef,undef,undef,undef,undef,undef,undef,undef,undef,undef,undef],ds⟩ w:=by
 unfold Zj sN;simp only[Code.behind,Code.head,Tryz.f59,aP];co_apply Exists.intro
 intro w hF;have hi:=hF.lt;obtain⟨h1,h2,h3,h5⟩:=hi;have k1:(i:Int)<(Z.n:Int):=by omega
 have k0:(0:Int)<=(i:Int):=by omega
 co_held (O6 Z i bx O) (xd Z i bx O) (zz Z i bx O) (HW Z i bx O w0 mb sx sb ic c1 c2 id) HW.rely hF
 co_applyP anyCH_take (O6 Z i bx O) (λ_ _ h r=>HW.rely h r) (λ_ _ _ h r=>qO.rely h r) (i:=0) rfl (by first|kernel_rfl|decide +kernel) (by first|kernel_rfl|decide +kernel) (by first|kernel_rfl|decide +kernel) (.inl ⟨by rfl,λ_ hw=>⟨run_eq_of ?WU,?Pg⟩⟩) hF ?mH
 case WU=>
  intro K hK;have hc:=hw.sx;go_simp
  exact hK
 case Pg=>
  have hc:=hw.sx;refineλhN=>zJ hN ?_;co_evs (exact Jz hw.sx (.inl hw.iP.2.1))
 try walk_nrm
 co_applyP anyCH_take (O6 Z i bx O) (λ_ _ h r=>HW.rely h r) (λ_ _ _ h r=>qO.rely h r) (i:=1) rfl (by first|kernel_rfl|decide +kernel) (by first|kernel_rfl|decide +kernel) (by first|kernel_rfl|decide +kernel) (.inl ⟨by rfl,λ_ hw=>⟨run_eq_of ?WT,?O_⟩⟩) hF ?mB
 case WT=>
  intro K hK;skip
  go_simp
  exact hK
 case O_=>
  skip
  co_still (O6 Z i bx O)
 try walk_nrm
 co_applyP anyCH_take (O6 Z i bx O) (λ_ _ h r=>HW.rely h r) (λ_ _ _ h r=>qO.rely h r) (i:=2) rfl (by first|kernel_rfl|decide +kernel) (by first|kernel_rfl|decide +kernel) (by first|kernel_rfl|decide +kernel) (.inl ⟨by rfl,λ_ hw=>⟨run_eq_of ?WQ,?OZ⟩⟩) hF ?mz
 case WQ=>
  intro K hK;skip
  go_simp
  exact hK
 case OZ=>
  skip
  co_still (O6 Z i bx O)
 try walk_nrm
 co_applyP anyCH_take (O6 Z i bx O) (λ_ _ h r=>HW.rely h r) (λ_ _ _ h r=>qO.rely h r) (i:=3) rfl (by first|kernel_rfl|decide +kernel) (by first|kernel_rfl|decide +kernel) (by first|kernel_rfl|decide +kernel) (.inl ⟨by rfl,λ_ hw=>⟨run_eq_of ?WO,?OY⟩⟩) hF ?mw
 case WO=>
  intro K hK;have hc:=hw.seg;go_simp
  exact hK
 case OY=>
  have hc:=hw.seg;refineλhN=>zJ hN ?_;co_evs (exact Jz hw.seg (.inl hw.iP.2.2.1))
 try walk_nrm
 co_applyP anyCH_take (O6 Z i bx O) (λ_ _ h r=>HW.rely h r) (λ_ _ _ h r=>qO.rely h r) (i:=4) rfl (by first|kernel_rfl|decide +kernel) (by first|kernel_rfl|decide +kernel) (by first|kernel_rfl|decide +kernel) (.inl ⟨by rfl,λ_ hw=>⟨run_eq_of ?WM,?OX⟩⟩) hF ?mq
 case WM=>
  intro K hK;have hc:=hw.wB;go_simp
  exact hK
 case OX=>
  have hc:=hw.wB;refineλhN=>zJ hN ?_;co_evs (exact Jz hw.wB (.inr rfl))
 try walk_nrm
 co_applyP anyCH_take (O6 Z i bx O) (λ_ _ h r=>HW.rely h r) (λ_ _ _ h r=>qO.rely h r) (i:=5) rfl (by first|kernel_rfl|decide +kernel) (by first|kernel_rfl|decide +kernel) (by first|kernel_rfl|decide +kernel) (.inl ⟨by rfl,λ_ hw=>⟨run_eq_of ?WJ,?OW⟩⟩) hF ?mo
 case WJ=>
  intro K hK;skip
  go_simp
  exact hK
 case OW=>
  skip
  co_still (O6 Z i bx O)
 try walk_nrm
 co_applyP anyCH_take (O6 Z i bx O) (λ_ _ h r=>HW.rely h r) (λ_ _ _ h r=>qO.rely h r) (i:=6) rfl (by first|kernel_rfl|decide +kernel) (by first|kernel_rfl|decide +kernel) (by first|kernel_rfl|decide +kernel) (.inl ⟨by rfl,λ_ hw=>⟨run_eq_of ?WI,?OV⟩⟩) hF ?mj
 case WI=>
  intro K hK;have hc:=hw.ids;go_simp
  exact hK
 case OV=>
  have hc:=hw.ids;refineλhN=>zJ hN ?_;co_evs (exact Jz hw.ids (.inl hw.iP.1))
 try walk_nrm
 co_applyP anyCH_take (O6 Z i bx O) (λ_ _ h r=>HW.rely h r) (λ_ _ _ h r=>qO.rely h r) (i:=7) rfl (by first|kernel_rfl|decide +kernel) (by first|kernel_rfl|decide +kernel) (by first|kernel_rfl|decide +kernel) (.inl ⟨by rfl,λ_ hw=>⟨run_eq_of ?WH,?OU⟩⟩) hF ?mh
 case WH=>
  intro K hK;have hc:=hw.wB;go_simp
  exact hK
 case OU=>
  have hc:=hw.wB;refineλhN=>zJ hN ?_;co_evs (exact Jz hw.wB (.inr rfl))
 try walk_nrm
 co_applyP anyCH_take (O6 Z i bx O) (λ_ _ h r=>HW.rely h r) (λ_ _ _ h r=>qO.rely h r) (i:=8) rfl (by first|kernel_rfl|decide +kernel) (by first|kernel_rfl|decide +kernel) (by first|kernel_rfl|decide +kernel) (.inl ⟨by rfl,λ_ hw=>⟨run_eq_of ?WG,?OT⟩⟩) hF ?me
 case WG=>
  intro K hK;skip
  go_simp
  exact hK
 case OT=>
  skip
  co_still (O6 Z i bx O)
 try walk_nrm
 co_applyP anyCH_take (O6 Z i bx O) (λ_ _ h r=>HW.rely h r) (λ_ _ _ h r=>qO.rely h r) (i:=9) rfl (by first|kernel_rfl|decide +kernel) (by first|kernel_rfl|decide +kernel) (by first|kernel_rfl|decide +kernel) (.inl ⟨by rfl,λ_ hw=>⟨run_eq_of ?WE,?OQ⟩⟩) hF ?l8
 case WE=>
  intro K hK;have hc:=hw.id;go_simp
  exact hK
 case OQ=>
  have hc:=hw.id;refineλhN=>zJ hN ?_;co_evs (exact Jz hw.id (.inl hw.iP.2.2.2.1))
 try walk_nrm
 co_applyP anyCH_take (O6 Z i bx O) (λ_ _ h r=>HW.rely h r) (λ_ _ _ h r=>qO.rely h r) (i:=10) rfl (by first|kernel_rfl|decide +kernel) (by first|kernel_rfl|decide +kernel) (by first|kernel_rfl|decide +kernel) (.inl ⟨by rfl,λ_ hw=>⟨run_eq_of ?Lj,?Gx⟩⟩) hF ?WZ
 case Lj=>
  intro K hK;skip
  go_simp
  exact hK
 case Gx=>
  skip
  co_still (O6 Z i bx O)
 try walk_nrm
 co_applyP anyCH_take (O6 Z i bx O) (λ_ _ h r=>HW.rely h r) (λ_ _ _ h r=>qO.rely h r) (i:=11) rfl (by first|kernel_rfl|decide +kernel) (by first|kernel_rfl|decide +kernel) (by first|kernel_rfl|decide +kernel) (.inl ⟨by rfl,λ_ hw=>⟨run_eq_of ?Lh,?Gw⟩⟩) hF ?WY
 case Lh=>
  intro K hK;skip
  go_simp
  exact hK
 case Gw=>
  skip
  co_still (O6 Z i bx O)
 try walk_nrm
 co_applyP anyCH_take (O6 Z i bx O) (λ_ _ h r=>HW.rely h r) (λ_ _ _ h r=>qO.rely h r) (i:=12) rfl (by first|kernel_rfl|decide +kernel) (by first|kernel_rfl|decide +kernel) (by first|kernel_rfl|decide +kernel) (.inl ⟨by rfl,λ_ hw=>⟨run_eq_of ?Ld,?Gv⟩⟩) hF ?WX
 case Ld=>
  intro K hK;skip
  go_simp
  exact hK
 case Gv=>
  skip
  co_still (O6 Z i bx O)
 try walk_nrm
 refine anyCH_all (rs:=[13]) (by first|kernel_rfl|decide +kernel) (by simp) ?_;intro j hj;obtain rfl:j=13:=by simpa using hj
 unfold OpC;simp only[iU,List.getElem?_cons_succ,VF];rw[if_pos (by rfl)];intro w₁ r₁;replace hF:=hF.rely r₁;clear r₁;obtain⟨cs,hcs,hsz⟩:=hF.cb;have c0:w₁.cell? ⟨Z.Cb,i*2,none⟩=some cs[i*2]:=by simp[World.cell?,hcs]
 have c1':w₁.cell? ⟨Z.Cb,i*2+1,none⟩=some cs[i*2+1]:=by simp[World.cell?,hcs]
 have z0:∀k,w₁.frozen? ⟨Z.Cb,k,none⟩=false:=λk=>by simp[World.frozen?,hcs]
 have d0:∀v,(w₁.setCell ⟨Z.Cb,i*2,none⟩ v).cell? ⟨Z.Cb,i*2+1,none⟩=some cs[i*2+1]:=λv=>by rw[World.cell?_setCell_other _ _ _ _ (by simp),c1']
 have y0:∀v k,(w₁.setCell ⟨Z.Cb,i*2,none⟩ v).frozen? ⟨Z.Cb,k,none⟩=false:=λv k=>by rw[World.frozen?_setCell];exact z0 k
 go_simp
 obtain⟨t1,t2,t3,t4,t5⟩:=b4X w₁ i (.int .i64 id) (.slice ua um uc) hF.cb h1;have KX:((w₁.setCell ⟨Z.Cb,i*2,none⟩ (.int .i64 id)).setCell ⟨Z.Cb,i*2+1,none⟩ (.slice ua um uc)).heap.size=w₁.heap.size:=by rw[ZH,ZH]
 have hbx:bx≠Z.Cb:=λe=>by
  have:=hF.box;rw[e,hcs] at this;injection this with this;injection this with _ h3 _;exact absurd h3.symm Xm
 have hl:Z.Cb<w₁.heap.size:=Bi.lt_of_some hcs;have hw2:HW Z i bx O w0 mb sx sb ic c1 c2 id ((w₁.setCell ⟨Z.Cb,i*2,none⟩ (.int .i64 id)).setCell ⟨Z.Cb,i*2+1,none⟩ (.slice ua um uc)):=by
  obtain⟨e1,e2,e3,e4,e5⟩:=hF.iP;have ne:=λb(hb:Z.lN b)=>(hZ.iP b hb).2.2.2.1;refine⟨λb hb=>by rw[KX];exact hF.nw b hb,by rw[KX];exact hF.grow,λb hb=>(t1 b (λe=>by have:=(hF.nw b hb).1;have:=hZ.C0;omega)).trans (hF.own b hb),hF.iP,hF.lt,(t1 _ hbx).trans hF.box,(ConcN.cell_of_block (t1 _ (ne _ e2)) _).trans hF.sx,(ConcN.cell_of_block (t1 _ (ne _ e3)) _).trans hF.seg,(ConcN.cell_of_block (t1 _ (ne _ e1)) _).trans hF.ids,(ConcN.cell_of_block (t1 _ (ne _ e4)) _).trans hF.id,t2,?_,?_,(ConcN.cell_of_block (t1 _ (ne _ e5)) _).trans hF.e0⟩
  ·obtain⟨v,hv⟩:=hF.al;exact⟨v,(t1 _ hZ.AC).trans hv⟩
  ·exact QE (t1 _ hZ.WC) hF.live
 have ev:∀e∈listed prog 59 ⟨#[V0,.pointer (some ⟨bx,0,none⟩),V2,.pointer (some ⟨mb,0,none⟩),.pointer (some ⟨sx,0,none⟩),V5,.slice ua um uc,x7,x8,x9,x10,x11,x12,.pointer (some ⟨sb,0,none⟩),.pointer (some ⟨sb,0,none⟩),.pointer (some ⟨sb,3,none⟩),.slice (some ⟨Z.Cb,0,none⟩) Z.n c1,.int .i64 i,.pointer (some ⟨mb,1,none⟩),.slice (some ⟨ic,0,none⟩) Z.n c2,.int .i64 i,.pointer (some ⟨ic,i,none⟩),.int .i64 id,.slice ua um uc,.agg #[.int .i64 id,.slice ua um uc],.pointer (some ⟨Z.Cb,i*2,none⟩),undef,undef,undef],ds⟩ qD w₁,EvW Z i bx O w₁.heap.size e:=by
  intro e he;have hm:=mem_listed he;unfold qD at hm;have hse:∀(w:World)(es:Array Event)(a:Addr),(store a (.slice ua um uc) .plain).events prog w es=storedEv prog w es a (.slice ua um uc) .plain:=λw es a=>events_store _ _ _ _ _ _ rfl;simp[go_sem,storedEv,c0,c1',d0,z0,y0,hse] at hm;rcases hm with hm|hm<;>subst hm
  ·exact⟨hl,.inr ⟨rfl,.inr (.inl ⟨rfl,rfl,.inl (by show i*2=_;omega)⟩)⟩⟩
  ·exact⟨hl,.inr ⟨rfl,.inr (.inl ⟨rfl,rfl,.inr (by show i*2+1=_;omega)⟩)⟩⟩
 refine⟨λhN=>⟨dS KX.symm,rfl,rfl,rfl,λb _ _ _ hb=>t1 b hb,λ_=>hw2.al,λ_=>t2,t3,λ_ h=>h,λ_ h=>.inl h,λb hb=>by rw[KX];exact(hN b hb).2,λe he=>by rw[KX];exact ev e he⟩,hw2,?_⟩;exact anyCH_done (by first|kernel_rfl|decide +kernel) ⟨hw2,t4,t5,rfl,rfl,rfl,rfl⟩ _
end
section
open Go.RowKit Go.Conc Go.Conc.Lib Go.Mw Go.Mc
open Go.ConcN (WgLive Has AtR0)
set_option linter.unusedSectionVars false
section
variable{Z:Pz}{i bx:Nat}{O:Nat->Prop}{Stop:(Nat->Prop)->Goroutine->World->Prop}{g:Goroutine}{w:World}
theorem Ab{Stop0:Goroutine->World->Prop}{n:Nat}(hN:Nw Z O w)(h:Goes Z.P false (RW Z i bx O) (D2 Z i bx O) Stop0 n g w)(hk:∀g w,Stop0 g w->Nw Z O w->∃T,Ww Z i bx Stop T O g w):∃T,Ww Z i bx Stop T O g w:=by
 obtain⟨T,hT⟩:=Wk.pI (γ:=Nat->Prop) (R:=λx=>RW Z i bx x) (D:=λx x' w w' es=>x'=x/\D2 Z i bx x w w' es) (Stop:=λx g w=>x=O/\Stop0 g w) O (λ_ _ h=>h) (λ_ _ _ h=>⟨rfl,h⟩) (λ_ _ h=>⟨rfl,h⟩) h;have h1:Ww Z i bx (λx g w=>x=O/\Stop0 g w/\Nw Z O w) T O g w:=by
  refine Zg (λx w=>x=O/\Nw Z O w) ?_ ?_ ?_ ?_ ⟨rfl,hN⟩ hT
  ·rintro x w w' ⟨rfl,h⟩ r;exact⟨rfl,h.rely r⟩
  ·exactλx w w' _ r=>r
  ·rintro x x' w w' es ⟨rfl,h⟩ ⟨rfl,d⟩;have:=d h;exact⟨this,rfl,λb hb=>⟨(h b hb).1,this.MR b hb⟩⟩
  ·rintro x g w ⟨rfl,h⟩ ⟨_,s⟩;exact⟨rfl,s,h⟩
 refine Wk.bind (R:=RW Z i bx) (RW.refl Z i bx) (λ_ _ _ _ h1 h2=>RW.trans Z h1 h2) h1 ?_;rintro x g w ⟨rfl,h,hn⟩;exact hk g w h hn
end
theorem c0x{P:Program}{main:Bool}{R:World->World->Prop}{D:World->World->Array Event->Prop}{fn:FuncId}{Q:Exit->Act->World->Prop}{a:Act}{w:World}{ops:Array Oper}{j:Nat}{rest:List Nat}{o:Oper}{f:FuncId}{fn':Func}{x y:Operand}{ats:Array TypeId}{n:Nat}{k:IntKind}{ad:Addr}{d:Int}
 (ho:ops[j]?=some o)(hw:Region.wanted o (yielded ops a.tmps)=true)(hop:o.op=.call {callee:=.value (.func f),args:=#[x,y],argTypes:=ats})(hf:P.funcs[f]?=some fn')(hname:(fn'.name== "runtime.NumGoroutine")=false)(hb:fn'.body.isNone=true)(hn:Extern.findNext fn'=none)
 (he:Extern.find fn'=some (Extern.Atomic.update (Op.intArith .add) k true))(hx:a.eval x=.pointer (some ad))(hy:a.eval y=.int k d)
 (h:∀w₁,R w w₁->∃v,w₁.cell? ad=some (.int k v)/\w₁.frozen? ad=false/\D w₁ (w₁.setCell ad (.int k (k.wrap (v+d)))) #[⟨.cell ad,false,true⟩,⟨.cell ad,true,true⟩]/\
   OpsC P main R D fn ops rest n Q (a.put o.dst (.int k (k.wrap (v+d)))) (w₁.setCell ad (.int k (k.wrap (v+d))))):OpsC P main R D fn ops (j::rest) (n+1) Q a w:=by
 refine opsC_cons ho hw λw₁ r=>?_;obtain⟨v,hc,hz,hD,hk⟩:=h w₁ r;have hm:(#[x,y]:Array Operand).map a.eval=#[.pointer (some ad),.int k d]:=by simp[hx,hy]
 have e1:=execOp_call_func (a:=a) hop;have hrun:(execOp a.eval o).run P w₁=.ok (.value (.int k (k.wrap (v+d)))) (w₁.setCell ad (.int k (k.wrap (v+d)))):=by
  rw[e1,run_callFunc_extern hf hname hb hn he,hm,run_add_entry hc hz];rfl
 have hl:listed P fn a o w₁=#[⟨.cell ad,false,true⟩,⟨.cell ad,true,true⟩]:=by
  unfold listed;rw[e1,events_callFunc_extern hf hname hb hn he,hm,events_add_entry hc hz];exact seen_entry fn f _ (sync_rw ad)
 rw[hrun];exact⟨by rw[hl];exact hD,hk⟩
section
variable(Z:Pz)(i bx:Nat)(O:Nat->Prop)(w0:World)(mb sx sb ic c1 c2:Nat)(id:Int)(u:Value)
structure F3(w:World):Prop where
 hw:HW Z i bx O w0 mb sx sb ic c1 c2 id w
 c0:w.cell? ⟨Z.Cb,2*i,none⟩=some (.int .i64 id)
 c1:w.cell? ⟨Z.Cb,2*i+1,none⟩=some u
end
theorem F3.rely{Z:Pz}{i bx:Nat}{O:Nat->Prop}{w0:World}{mb sx sb ic c1 c2:Nat}{id:Int}{u:Value}{w w₁:World}(h:F3 Z i bx O w0 mb sx sb ic c1 c2 id u w)(r:RW Z i bx O w w₁):F3 Z i bx O w0 mb sx sb ic c1 c2 id u w₁:=
 ⟨h.hw.rely r,(r.cell _ (.inl rfl)).trans h.c0,(r.cell _ (.inr rfl)).trans h.c1⟩
noncomputable def Qb:Code:=sN 3
theorem b7V:sN 2=.seq Zj Qb:=by kernel_rfl
abbrev JH:Oper:={dst:=some 26,op:=.move (.tmp 6),type:=151,pos:= "keydir.go:123",after:=#[],guard:=none}
abbrev GK:Oper:={dst:=some 27,op:=.call {callee:=.builtin .len,args:=#[.tmp 26],argTypes:=#[151]},type:=3,pos:= "keydir.go:123",after:=#[{on:=0,ground:=.data}],guard:=none}
abbrev YM:Oper:={dst:=some 28,op:=.call {callee:=.value (.func 62),args:=#[.tmp 5,.tmp 27],argTypes:=#[143,2]},type:=2,pos:= "keydir.go:123",after:=#[{on:=1,ground:=.data}],guard:=none}
theorem b7X:Qb=.region 3 #[JH,GK,YM] false:=by kernel_rfl
abbrev zv:Oper:={dst:=some 4,op:=.assign (.const (.int .i64 0)),type:=2,pos:= "type.go:128",after:=#[],guard:=none}
noncomputable def qz:Array Oper:=match Code.head (Code.behind 1 (Tryz.f62.body.getD .skip)) with|.region _ ops _=>ops|_=>#[]
theorem Ff:Tryz.f62.body=some (.seq (.region 0 #[zv] false) (.seq (.region 1 qz false) .ret)):=by kernel_rfl
theorem UX:qz=#[{dst:=some 5,op:=.move (.tmp 0),type:=219,pos:= "type.go:128",after:=#[],guard:=none},
 {dst:=some 6,op:=.nilCheck (.tmp 5),type:=0,pos:= "type.go:128",after:=#[{on:=0,ground:=.data}],guard:=none},
 {dst:=some 7,op:=.fieldAddr 143 (.tmp 6) 2,type:=0,pos:= "type.go:128",after:=#[{on:=1,ground:=.data}],guard:=none},
 {dst:=some 8,op:=.move (.tmp 1),type:=2,pos:= "type.go:128",after:=#[],guard:=none},
 {dst:=some 9,op:=.call {callee:=.value (.func 112),args:=#[.tmp 7,.tmp 8],argTypes:=#[221,2]},type:=2,pos:= "type.go:128",after:=#[{on:=2,ground:=.data},{on:=3,ground:=.data}],guard:=none},
 {dst:=some 4,op:=.assign (.tmp 9),type:=2,pos:= "type.go:128",after:=#[{on:=4,ground:=.data},{on:=4,ground:=.chain},{on:=0,ground:=.phase},{on:=1,ground:=.phase},{on:=2,ground:=.phase},{on:=3,ground:=.phase},{on:=4,ground:=.phase}],guard:=none}]:=by kernel_rfl
theorem c0y:Extern.find Tryz.f112=some (Extern.Atomic.update (Op.intArith .add) .i64 true):=by rfl
section
variable{Z:Pz}{i bx:Nat}{O:Nat->Prop}{w0:World}{mb sx sb ic c1 c2:Nat}{id:Int}{u:Value}{w:World}
theorem F3.add(hZ:jY Z)(hbx:bx≠Z.Al)(h:F3 Z i bx O w0 mb sx sb ic c1 c2 id u w){v:Int}(hv:w.heap[Z.Al]?=some (.cells #[.int .i64 v] Z.Wx))(x:Int):
 F3 Z i bx O w0 mb sx sb ic c1 c2 id u (w.setCell ⟨Z.Al,0,none⟩ (.int .i64 x))/\D2 Z i bx O w (w.setCell ⟨Z.Al,0,none⟩ (.int .i64 x)) #[⟨.cell ⟨Z.Al,0,none⟩,false,true⟩,⟨.cell ⟨Z.Al,0,none⟩,true,true⟩]:=by
 have ho:∀b,b≠Z.Al->(w.setCell ⟨Z.Al,0,none⟩ (.int .i64 x)).heap[b]?=w.heap[b]?:=λb hb=>bB _ _ _ (bP hb);have hs:=ZH w ⟨Z.Al,0,none⟩ (.int .i64 x);have hal:kY Z (w.setCell ⟨Z.Al,0,none⟩ (.int .i64 x)):=⟨x,by simp[World.setCell,aO,hv]⟩;have hcb:kS Z (w.setCell ⟨Z.Al,0,none⟩ (.int .i64 x)):=by
  obtain⟨cs,h1,h2⟩:=h.hw.cb;exact⟨cs,(ho _ (bP hZ.AC)).trans h1,h2⟩
 have hl:Z.Al<w.heap.size:=Bi.lt_of_some hv;have hH:=h.hw;obtain⟨e1,e2,e3,e4,e5⟩:=hH.iP;have ne:=λb(hb:Z.lN b)=>(hZ.iP b hb).2.2.1;refine⟨⟨⟨λb hb=>by rw[hs];exact hH.nw b hb,by rw[hs];exact hH.grow,λb hb=>(ho b (λe=>by have:=(hH.nw b hb).1;have:=hZ.A0;omega)).trans (hH.own b hb),hH.iP,hH.lt,(ho _ hbx).trans hH.box,(ConcN.cell_of_block (ho _ (ne _ e2)) _).trans hH.sx,(ConcN.cell_of_block (ho _ (ne _ e3)) _).trans hH.seg,(ConcN.cell_of_block (ho _ (ne _ e1)) _).trans hH.ids,(ConcN.cell_of_block (ho _ (ne _ e4)) _).trans hH.id,hcb,hal,QE (ho _ hZ.WA) hH.live,(ConcN.cell_of_block (ho _ (ne _ e5)) _).trans hH.e0⟩,
  (ConcN.cell_of_block (ho _ (bP hZ.AC)) _).trans h.c0,(ConcN.cell_of_block (ho _ (bP hZ.AC)) _).trans h.c1⟩,λhN=>⟨dS hs.symm,rfl,rfl,rfl,λb _ _ hb _=>ho b hb,λ_=>hal,λ_=>hcb,λk _=>ConcN.cell_of_block (ho _ (bP hZ.AC)) _,λ_ h=>h,λ_ h=>.inl h,λb hb=>by rw[hs];exact(hN b hb).2,λe he=>?_⟩⟩
 simp only[zK,aY,iH,or_false] at he;rcases he with rfl|rfl<;>exact⟨by rw[hs];exact hl,.inl ⟨rfl,rfl⟩⟩
end
theorem we{Z:Pz}{i bx:Nat}{O:Nat->Prop}(hZ:jY Z)(hbx:bx≠Z.Al)(w0:World)(mb sx sb ic c1 c2:Nat)(id:Int)(u:Value)(m:Nat):∃N,∀w,F3 Z i bx O w0 mb sx sb ic c1 c2 id u w->
 CallsC prog false (RW Z i bx O) (D2 Z i bx O) 62 #[.pointer (some ⟨Z.Al,0,none⟩),.int .i64 m] N w λ_ w'=>F3 Z i bx O w0 mb sx sb ic c1 c2 id u w':=by
 co_apply Exists.intro
 intro w hF;co_apply callsC_of_wpC func62 (by kernel_rfl) Ff
 simp only[ntmps62,f_,bV,fB,Nat.reduceAdd,Nat.reduceSub,eu,dZ,fF,eU,cO,List.cons_append];co_stmt (O6 Z i bx O) F3.rely hF (co_quiet (O6 Z i bx O))
 rw[UX];co_apply wpC_seq (O6 Z i bx O)
 co_reg (O6 Z i bx O)
 co_op F3.rely hF (co_quiet (O6 Z i bx O))
 co_op F3.rely hF (co_quiet (O6 Z i bx O))
 co_op F3.rely hF (co_quiet (O6 Z i bx O))
 co_op F3.rely hF (co_quiet (O6 Z i bx O))
 co_apply c0x rfl (by rfl) rfl func112 (by kernel_rfl) (by kernel_rfl) (by rfl) c0y rfl rfl
 intro w₁ r;replace hF:=F3.rely hF r;obtain⟨v,hv⟩:=hF.hw.al;have hadd:=hF.add hZ hbx hv (IntKind.i64.wrap (v+m));refine⟨v,by simp[World.cell?,hv],by simp[World.frozen?,hv],hadd.2,?_⟩;have hG:=hadd.1;clear hadd hF hv;walk_nrm;co_op F3.rely hG (co_quiet (O6 Z i bx O))
 co_apply opsC_nil (O6 Z i bx O)
 co_then
 co_ctl (O6 Z i bx O)
 exact⟨rfl,_,resultsC_tmp (by rfl) _,hG⟩
end
section
open Go.RowKit Go.Conc Go.Conc.Lib Go.Mw Go.Mc
open Go.ConcN (WgLive Has AtR0)
set_option linter.unusedSectionVars false
variable[Go.ConcR.Payload]
def QW3(Z:Pz)(i bx:Nat)(O:Nat->Prop)(w0:World)(mb sx sb ic c1 c2:Nat)(id:Int)(u:Value)(ds:List Deferred):Exit->Act->World->Prop
 | .normal,a,w=>F3 Z i bx O w0 mb sx sb ic c1 c2 id u w/\a.defers=ds
 | _,_,_=>False
theorem wd{Z:Pz}{i bx:Nat}{O:Nat->Prop}(hZ:jY Z)(hbx:bx≠Z.Al)(w0:World)(mb sx sb ic c1 c2:Nat)(id:Int)(ua:Option Addr)(um uc:Nat)(ds:List Deferred):∃N,∀T w,T.size=29->T[5]?=some (.pointer (some ⟨Z.Al,0,none⟩))->T[6]?=some (.slice ua um uc)->F3 Z i bx O w0 mb sx sb ic c1 c2 id (.slice ua um uc) w->
 Qb.wpC prog false (RW Z i bx O) (D2 Z i bx O) 59 N (QW3 Z i bx O w0 mb sx sb ic c1 c2 id (.slice ua um uc) ds) ⟨T,ds⟩ w:=by
 obtain⟨nf,hadd⟩:=we hZ hbx w0 mb sx sb ic c1 c2 id (.slice ua um uc) um;refine⟨1+nf+3+1+1+1,λT w hT h5 h6 hF=>?_⟩;rw[b7X];refine wpC_region (O6 Z i bx O) ?_;have hr:List.range (#[JH,GK,YM]:Array Oper).size=[0,1,2]:=by rfl
 rw[hr];have q6:=L8 (ds:=ds) h6;refine opsC_cons (n:=1+nf+3+1) (o:=JH) rfl (by rfl) λw₁ r₁=>?_;have hF1:=F3.rely hF r₁;have e1:(execOp (Act.eval ⟨T,ds⟩) JH).run prog w₁=.ok (.value (.slice ua um uc)) w₁:=by
  show Result.ok (Next.value (Act.eval ⟨T,ds⟩ (.tmp 6))) w₁=_;rw[q6]
 rw[e1];refine⟨λhN=>zJ hN (by rw[show listed prog 59 ⟨T,ds⟩ JH w₁=#[] from listed_nil (by rfl)];simp),?_⟩;have e0:Act.put ⟨T,ds⟩ JH.dst (.slice ua um uc)=⟨T.setIfInBounds 26 (.slice ua um uc),ds⟩:=rfl;rw[e0];have t26:(T.setIfInBounds 26 (.slice ua um uc))[26]?=some (.slice ua um uc):=wO (by omega);have t5:=C9 (u:=.slice ua um uc) (j:=26) h5 (by decide);have hs1:(T.setIfInBounds 26 (.slice ua um uc)).size=29:=by simp[hT]
 generalize T.setIfInBounds 26 (.slice ua um uc)=T1 at t26 t5 hs1⊢;have Sl:=L8 (ds:=ds) t26;refine opsC_cons (n:=1+nf+3) (o:=GK) rfl (by rfl) λw₂ r₂=>?_;have hF2:=F3.rely hF1 r₂;have hu:prog.underlying 151=some (.slice 160):=by kernel_rfl
 have e2:(execOp (Act.eval ⟨T1,ds⟩) GK).run prog w₂=.ok (.value (.int .i64 um)) w₂:=by
  generalize Act.eval ⟨T1,ds⟩ = ρ at Sl;simp[go_sem,Sl,hu]
 have e3:(execOp (Act.eval ⟨T1,ds⟩) GK).events prog w₂ #[]=#[]:=by
  generalize Act.eval ⟨T1,ds⟩ = ρ at Sl;simp[go_sem,Sl,hu]
 rw[e2];refine⟨λhN=>zJ hN (by rw[show listed prog 59 ⟨T1,ds⟩ GK w₂=#[] from listed_nil e3];simp),?_⟩;have e4:Act.put ⟨T1,ds⟩ GK.dst (.int .i64 um)=⟨T1.setIfInBounds 27 (.int .i64 um),ds⟩:=rfl;rw[e4];have t27:(T1.setIfInBounds 27 (.int .i64 um))[27]?=some (.int .i64 um):=wO (by omega);replace t5:=C9 (u:=.int .i64 um) (j:=27) t5 (by decide);generalize T1.setIfInBounds 27 (.int .i64 um)=T2 at t27 t5⊢;refine opsC_call (n:=1) (O6 Z i bx O) (o:=YM) rfl (by rfl) rfl (Post:=λ_ w'=>F3 Z i bx O w0 mb sx sb ic c1 c2 id (.slice ua um uc) w') ?_ λv w' hF'=>?_
 ·have ea:(#[.tmp 5,.tmp 27]:Array Operand).map (Act.eval ⟨T2,ds⟩)=#[.pointer (some ⟨Z.Al,0,none⟩),.int .i64 um]:=by
   simp only[eH,aB,dJ];rw[L8 t5,L8 t27]
  rw[ea];exact hadd w₂ hF2
 ·exact opsC_nil (O6 Z i bx O) ⟨hF',rfl⟩
theorem UV{Z:Pz}{i bx:Nat}{O:Nat->Prop}{w w₁:World}(hZ:jY Z)(h:RW Z i bx O w w₁):ConcN.RW Z.ty Z.Wg Z.e0 Z.n 0 0 w w₁:=Mc.xR hZ h
theorem c0z{Z:Pz}{i bx:Nat}{O:Nat->Prop}(hZ:jY Z)(hP:Z.P=prog)(hty:Z.ty=149)(w0:World)(mb sx sb ic c1 c2:Nat)(id:Int)(u:Value)(T:Array Value)
 (hres:∀w,F3 Z i bx O w0 mb sx sb ic c1 c2 id u w->Z.kG i bx O w)(w:World)(hF:F3 Z i bx O w0 mb sx sb ic c1 c2 id u w):
 ∃Tr,Ww Z i bx (RX Z i bx) Tr O (G ((baseD 59).at ⟨T,[dcall 60 #[.pointer (some ⟨Z.Wg,0,none⟩)]]⟩ []) [bot]) w:=by
 have hN:=hF.hw.nw;refine CU hN rfl (λ_=>stepG_end) ?_;refine CU hN rfl (λ_=>stepG_unwind_enter (ds:=[]) rfl (by rw[hP];exact wgLib.f_done) (by kernel_rfl) rfl) ?_;have hs:=b5Z (P:=prog) (Wg:=Z.Wg) (C:=Z.e0) (n:=Z.n) (Low:=0) (k:=1) (val:=Z.v0) wgLib (c:={(baseD 59).at ⟨T,[]⟩ [] with mode:=.returning}) (cs:=[bot]) rfl (quits_tail T) w ⟨by have:=hF.hw.live;rw[hty] at this;exact this,hF.hw.e0⟩;obtain⟨Tr,hT⟩:=Wk.pI (γ:=Nat->Prop) (R:=λ_=>ConcN.RW 149 Z.Wg Z.e0 Z.n 0 0) (D:=λx x' w w' es=>x'=x/\ConcR.DC0 w w' es) (Stop:=λ_ g w=>AtR0 prog 149 Z.Wg Z.e0 Z.n 0 1 Z.v0 g w) O (λ_ _ h=>h) (λ_ _ _ h=>⟨rfl,h⟩) (λ_ _ h=>h) hs;refine⟨Tr,?_⟩;unfold Ww;rw[hP];refine Zg (λx w=>x=O/\F3 Z i bx O w0 mb sx sb ic c1 c2 id u w) ?_ ?_ ?_ ?_ ⟨rfl,hF⟩ hT
 ·rintro x w w' ⟨rfl,h⟩ r;exact⟨rfl,h.rely r⟩
 ·rintro x w w' _ r;have:=UV hZ r;rw[hty] at this;exact this
 ·rintro x x' w w' es ⟨rfl,h⟩ ⟨rfl,rfl,rfl⟩;exact⟨zJ h.hw.nw (by simp),rfl,h⟩
 ·rintro x g w ⟨rfl,h⟩ s;refine⟨?_,hres w h⟩;rw[hP,hty];exact s
theorem b7Y{Z:Pz}{i bx:Nat}{O:Nat->Prop}(hZ:jY Z)(hP:Z.P=prog)(hty:Z.ty=149)(Xm:(3:TypeId)≠Z.Fe)(hbx:bx≠Z.Al)(w0:World)(V2 x7 x8 x9 x10 x11 x12:Value)(mb sx sb ic c1 c2:Nat)(id:Int)(ua:Option Addr)(um uc:Nat)
 (hres:∀w,F3 Z i bx O w0 mb sx sb ic c1 c2 id (.slice ua um uc) w->Z.kG i bx O w)(w:World)(hF:HW Z i bx O w0 mb sx sb ic c1 c2 id w):
 ∃Tr,Ww Z i bx (RX Z i bx) Tr O (G ((baseD 59).at ⟨#[.pointer (some ⟨Z.Wg,0,none⟩),.pointer (some ⟨bx,0,none⟩),V2,.pointer (some ⟨mb,0,none⟩),.pointer (some ⟨sx,0,none⟩),.pointer (some ⟨Z.Al,0,none⟩),.slice ua um uc,x7,x8,x9,x10,x11,x12,undef,undef,undef,undef,undef,undef,undef,undef,undef,undef,undef,undef,undef,undef,undef,undef],
  [dcall 60 #[.pointer (some ⟨Z.Wg,0,none⟩)]]⟩ [.code (sN 2)]) [bot]) w:=by
 have hN:=hF.nw;obtain⟨N2,h2⟩:=wt w0 hZ Xm (.pointer (some ⟨Z.Wg,0,none⟩)) V2 (.pointer (some ⟨Z.Al,0,none⟩)) x7 x8 x9 x10 x11 x12 mb sx sb ic c1 c2 id [dcall 60 #[.pointer (some ⟨Z.Wg,0,none⟩)]] ua um uc (i:=i) (bx:=bx) (O:=O);obtain⟨N3,h3⟩:=wd hZ hbx w0 mb sx sb ic c1 c2 id ua um uc [dcall 60 #[.pointer (some ⟨Z.Wg,0,none⟩)]] (i:=i) (O:=O);rw[b7V];refine CU hN rfl (λ_=>stepG_seq) ?_;have g2:=wpC_goes (b:=baseD 59) (k:=[.code Qb]) (cs:=[bot]) (m:=0) (Stop:=λg w=>∃a',g=G ((baseD 59).at a' [.code Qb]) [bot]/\qO Z i bx O w0 (.pointer (some ⟨Z.Al,0,none⟩)) mb sx sb ic c1 c2 id (.slice ua um uc) [dcall 60 #[.pointer (some ⟨Z.Wg,0,none⟩)]] .normal a' w) (h2 w hF) rfl (by simp[baseD]) λe a' w' q=>by
  cases e<;>first|exact q.elim|exactλw₁ r=>⟨a',rfl,q.rely r⟩
 refine Ab hN (hP▸g2) ?_;rintro _ w₁ ⟨a',rfl,q1,q2,q3,q4,q5,q6,q7⟩ hN1;obtain⟨T1,ds1⟩:=a';dsimp only at q4 q5 q6 q7;subst q4;have g3:=wpC_goes (b:=baseD 59) (k:=[]) (cs:=[bot]) (m:=0) (Stop:=λg w=>∃T,g=G ((baseD 59).at ⟨T,[dcall 60 #[.pointer (some ⟨Z.Wg,0,none⟩)]]⟩ []) [bot]/\F3 Z i bx O w0 mb sx sb ic c1 c2 id (.slice ua um uc) w) (h3 T1 w₁ q5 q6 q7 ⟨q1,q2,q3⟩) rfl (by simp[baseD]) λe a' w' q=>by
  cases e<;>first|exact q.elim|skip
  obtain⟨q1,q2⟩:=q;obtain⟨T,ds⟩:=a';dsimp only at q2;subst q2;exactλw₁ r=>⟨T,rfl,q1.rely r⟩
 refine Ab hN1 (hP▸g3) ?_;rintro _ w₂ ⟨T2,rfl,hF2⟩ _;exact c0z hZ hP hty w0 mb sx sb ic c1 c2 id _ T2 hres w₂ hF2
end
end Go.Proofs.YtgpbhjjajpbeeaaGreatDoor
namespace Go.Bi
section
open Zn (ext low kk Gr K0 Nx Full tp jh Zf)
def TI:Obj->Obj
 | .cells c e fr=>.cells c e (0,max c.size fr.2)
 | o=>o
open Classical in
noncomputable def rF(D:Nat->Prop)(w:World)(o:Obj):World:={w with heap:=(w.heap.mapIdx λb x=>if D b then TI x else x).push o}
section
variable{D:Nat->Prop}{w:World}{o:Obj}
theorem zF:(rF D w o).heap.size=w.heap.size+1:=by simp[rF]
open Classical in
theorem TW{b:Nat}(h:b<w.heap.size):(rF D w o).heap[b]?=(w.heap[b]?).map λx=>if D b then TI x else x:=by
 unfold rF;rw[dN,if_neg (by simp;omega),Array.getElem?_mapIdx]
theorem TV:(rF D w o).heap[w.heap.size]?=some o:=by
 unfold rF;rw[dN,if_pos (by simp)]
theorem b9W{a:Addr}(h:a.block<w.heap.size):(rF D w o).cell? a=w.cell? a:=by
 unfold World.cell?;rw[TW h]
 cases hb:w.heap[a.block]? with
 | none=>rfl
 | some x=>
  by_cases hd:D a.block
  ·simp only[dH,if_pos hd];cases x<;>rfl
  ·simp only[dH,if_neg hd]
theorem Wl{Z:Zn.Zone}{Sh:Nat->Prop}(h:jh Z Sh w)(ho:Zn.fK (Zf Z Sh (w.heap.size+1)) o):jh Z Sh (rF D w o):=by
 have mono:∀{x:Obj},Zn.fK (Zf Z Sh w.heap.size) x->Zn.fK (Zf Z Sh (w.heap.size+1)) x:=λh=>h.mono (Zn.iD (qy _));refine⟨λb x hb hs hx=>?_,λb hb=>by rw[zF];have:=h.sh b hb;omega,λb hb=>⟨by rw[zF];have:=(h.base b hb).1;omega,(h.base b hb).2⟩⟩;rw[zF] at hb⊢;by_cases hlt:b<w.heap.size
 ·rw[TW hlt] at hx;obtain⟨y,hy,rfl⟩:=aS.1 hx;have:=mono (h.obj b y hlt hs hy);split
  ·cases this<;>first|exact .cells _ _ _ (by assumption)|(constructor<;>assumption)
  ·exact this
 ·obtain rfl:b=w.heap.size:=by omega
  rw[TV] at hx;injection hx with hx;exact hx▸ho
end
inductive Plain(D:Nat->Prop):Value->Prop
 | bool (b:Bool):Plain D (.bool b)
 | int (k:IntKind) (n:Int):Plain D (.int k n)
 | string (s:ByteArray):Plain D (.string s)
 | gy (n c:Nat):Plain D (.slice none n c)
 | slice (a:Addr) (n c:Nat) (h:D a.block):Plain D (.slice (some a) n c)
def pY(D:Nat->Prop)(F:FuncId->Prop)(T:TypeId->Prop)(m bx:Nat)(K:Tmp->Value)(Kd:List Deferred)(Kk:CallKind):Sit:=
 {ren:=λb=>if b=m then bx else b,D:=λb=>D b\/b=m,F:=F,T:=T,W:=λ_=>False,K:=K,Kd:=Kd,Kk:=Kk}
section
variable{D:Nat->Prop}{F:FuncId->Prop}{T:TypeId->Prop}{bx:Nat}{K:Tmp->Value}{Kd:List Deferred}{Kk:CallKind}{w w2:World}
theorem Plain.vr{m:Nat}(hD:∀b,D b->b≠m){v:Value}(h:Plain D v):VR (pY D F T m bx K Kd Kk) v v:=by
 cases h with
 | bool b=>exact .bool b
 | int k n=>exact .int k n
 | string s=>exact .string s
 | gy n c=>exact .gy n c
 | slice a n c h=>
  have e:rA (pY D F T m bx K Kd Kk) a=a:=by
   unfold rA pY;simp[hD _ h]
  have:=VR.slice (S:=pY D F T m bx K Kd Kk) a n c (.inl h);rw[e] at this;exact this
theorem b9X(hD:∀b,D b->b<w.heap.size)(v:Value)(t:TypeId):uy (pY D F T w.heap.size bx K Kd Kk) (rF D w (.cells #[v] t (0,1))):=by
 rintro b (hb|rfl)
 ·rw[zF];have:=hD b hb;omega
 ·rw[zF];omega
open Classical in
theorem We{k:IntKind}{n:Int}{t:TypeId}(hD:∀b,D b->b<w.heap.size/\w2.heap[b]?=w.heap[b]?/\∃c e fr,w.heap[b]?=some (.cells c e fr)/\∀v∈c,Plain D v)(hbx:w2.heap[bx]?=some (.cells #[.int k n] t))(hb:w.heap.size<=bx):
 WR (pY D F T w.heap.size bx K Kd Kk) (rF D w (.cells #[.int k n] t (0,1))) w2:=by
 have hne:∀b,D b->b≠w.heap.size:=λb h=>by have:=(hD b h).1;omega
 refine⟨?_,?_,?_,?_⟩
 ·rintro a b ha hb' e;have key:∀a,(pY D F T w.heap.size bx K Kd Kk).D a->(a=w.heap.size/\(pY D F T w.heap.size bx K Kd Kk).ren a=bx)\/(a<w.heap.size/\(pY D F T w.heap.size bx K Kd Kk).ren a=a):=by
   rintro a (ha|rfl)
   ·exact .inr ⟨(hD a ha).1,if_neg (hne a ha)⟩
   ·exact .inl ⟨rfl,if_pos rfl⟩
  rcases key a ha with⟨h1,h2⟩|⟨h1,h2⟩<;>rcases key b hb' with⟨h3,h4⟩|⟨h3,h4⟩<;>omega
 ·rintro b hb' (h|rfl)
  ·rw[zF] at hb';have:=(hD b h).1;omega
  ·rw[zF] at hb';omega
 ·rintro b (h|rfl) _
  ·obtain⟨h1,h2,c,e,fr,h3,h4⟩:=hD b h;refine⟨TI (.cells c e fr),.cells c e fr,by rw[TW h1,h3];simp[h],?_,?_⟩
   ·rw[show(pY D F T w.heap.size bx K Kd Kk).ren b=b from if_neg (hne b h),h2];exact h3
   ·refine .cells c c e _ fr ⟨rfl,λi h5 h6=>(h4 _ (iY h5)).vr hne⟩ λi h7 h8=>⟨bU _,ak h8 (Nat.le_max_right _ _)⟩
  ·refine⟨_,_,TV,?_,.cells _ _ t _ (0,0) (AR.one (.int k n)) λi h7 h8=>by simp at h8⟩;rw[show(pY D F T w.heap.size bx K Kd Kk).ren w.heap.size=bx from if_pos rfl];exact hbx
 ·rintro b c e fr (h|rfl) _ ho i hi
  ·obtain⟨h1,h2,c',e',fr',h3,h4⟩:=hD b h;rw[TW h1,h3] at ho;simp only[dH,h,if_true,TI,bJ,Obj.cells.injEq] at ho;obtain⟨rfl,rfl,rfl⟩:=ho;exact⟨bU _,ak hi (Nat.le_max_left _ _)⟩
  ·rw[TV] at ho;simp only[bJ,Obj.cells.injEq] at ho;obtain⟨rfl,rfl,rfl⟩:=ho;exact⟨bU _,by simpa using hi⟩
end
theorem VR.right{S:Sit}{Z:Zn.Zone}(hD:∀b,S.D b->Z.D (S.ren b))(hF:∀f,S.F f->Z.F f)(hT:∀t,S.T t->Z.T t){v v':Value}(h:VR S v v'):Zn.VP Z v':=by
 induction h with
 | bool b=>exact .bool b
 | int k n=>exact .int k n
 | string s=>exact .string s
 | jc=>exact .jc
 | ptr a h=>exact .ptr _ (hD _ h)
 | gy n c=>exact .gy n c
 | slice a n c h=>exact .slice _ n c (hD _ h)
 | func fn fn' f f' c c' h hf hf' hc hc' MS MV=>
  refine .func _ _ _ ?_ ?_ ?_
  ·cases h with
   | func f h=>exact .func f (hF f h)
  ·intro x hx;obtain⟨i,hi,rfl⟩:=eY.1 hx;exact MS i (hf▸hi) hi
  ·intro x hx;obtain⟨i,hi,rfl⟩:=eY.1 hx
   exact MV i (hc▸hi) hi
 | iface t v v' ht h ih=>exact .iface t v' (hT t ht) ih
 | nilIface=>exact .nilIface
 | agg c c' hc hc' ih=>
  refine .agg _ λx hx=>?_;obtain⟨i,hi,rfl⟩:=eY.1 hx
  exact ih i (hc▸hi) hi
 | tuple c c' hc hc' ih=>
  refine .tuple _ λx hx=>?_;obtain⟨i,hi,rfl⟩:=eY.1 hx;exact ih i (hc▸hi) hi
theorem xk.right{S:Sit}{Z:Zn.Zone}(hD:∀b,S.D b->Z.D (S.ren b))(hF:∀f,S.F f->Z.F f)(hT:∀t,S.T t->Z.T t){o o':Obj}(h:xk S o o'):Zn.fK Z o':=by
 cases h with
 | cells c c' e fr fr' h hf=>
  refine .cells _ _ _ λx hx=>?_;obtain⟨i,hi,rfl⟩:=eY.1 hx
  exact(h.at_ i (h.size▸hi) hi).right hD hF hT
 | number a l h=>exact .number _ l (hD _ h)
theorem b7u{P:Program}{Z:Zn.Zone}{Sh:Nat->Prop}{X:Tmp->Prop}{b:Frame}{a:Act}{w:World}{c:Code}{Q0:Exit->Act->World->Prop}{A:Frame->World->Prop}(hP:∀Z',Zn.Le Z Z'->Zn.qo Z' P)(hI:To.Iv Z Sh X a w)(hk:b.kind=.normal)(hc:Zn.eX Z c)(hu:Zn.gX X c)
 (h:∀τ p,c.wp P Q0 a (tp w τ p))(hQ:∀e a' w',Q0 e a' w'->e=.normal/\A (b.at a' K0) w')(hA:∀F w,A F w->∃a',F=b.at a' K0):Zn.su P Z Sh X A (b.at a [.code c]) [] w:=by
 refine Zn.rC (λF w' hF c hm=>?_) hP (hI.inv hk hc hu) λτ p=>?_
 ·obtain⟨a',rfl⟩:=hA F w' hF;cases hm
 ·obtain⟨e,a',w',hq,har⟩:=h τ p b K0 [Zn.c0];obtain⟨rfl,Yw⟩:=hQ e a' w' hq;obtain⟨n,hr⟩:=har;exact⟨n,_,hr,_,_,rfl,Yw⟩
end
section
variable{S:Sit}{P:Program}
structure SB where
 F:FuncId->Bool
 T:TypeId->Bool
variable(B:SB)(P:Program)
def zW:Nat->Value->Bool
 | 0,_=>false
 | n+1,v=>match v with
  | .bool _|.int .. | .string _|.pointer none|.slice none _ _|.nilIface=>true
  | .iface t v=>B.T t&&zW n v
  | .agg c|.tuple c=>c.toList.all (zW n)
  | _=>false
def zh(t:TypeId):Bool:=match P.info? t with
 | some i=>(match i.zero with|some z=>zW B 6 z|none=>true)
 | none=>true
def GI:Operand->Bool
 | .tmp _=>true
 | .const v=>zW B 6 v
 | .global _=>false
 | .func f=>B.F f
def sliceB(t:TypeId):Option TypeId:=match P.underlying t with
 | some (.slice e)=>some e
 | _=>none
def Cm(t:TypeId):Bool:=match P.underlying t with
 | some (.int _)=>true
 | _=>false
def PV(c:Call):Bool:=match c.callee with
 | .value (.func f)=>B.F f
 | .builtin .len=>(match c.argTypes[0]? with|some u=>(sliceB P u).isSome|none=>false)
 | .builtin .append=>(match c.argTypes[0]?,c.argTypes[1]? with
  | some u,some u'=>(match sliceB P u,sliceB P u' with|some e,some _=>zh B P e|_,_=>false)
  | _,_=>false)
 | _=>false
def JE(t:TypeId)(y:Operand):Bool:=Cm P t||(match P.underlying t,y with|some (.interface _),.const .nilIface=>true|_,_=>false)
def Po(s d:TypeId):Bool:=(Cm P s&&Cm P d)||(match P.underlying s,P.underlying d with
 | some (.slice e),some .string=>(match P.underlying e with|some (.int .u8)=>true|_=>false)
 | _,_=>false)
def q8:BinOp->Bool
 | .eql|.neq=>true
 | _=>false
def sG(o:Op):Bool:=match o with
 | .move _|.assign _|.pick .. | .load .. | .store .. | .nilCheck _|.extract .. | .indexAddr .. | .slice .. | .unOp ..=>true
 | .alloc t|.build t _=>zh B P t
 | .buildSlice t _ _=>(match sliceB P t with|some e=>zh B P e|none=>true)
 | .binOp op t _ y _=>SV op||(q8 op&&JE P t y)
 | .convert s d _=>Po P s d
 | .makeInterface t _=>B.T t
 | .fieldAddr s _ f=>(match P.underlying s with|some (.struct fs)=>(match fs[f]? with|some g=>(match P.info? g.type with|some i=>i.size != 0|none=>true)|none=>true)|_=>true)
 | .call c=>PV B P c
 | _=>false
def fQ:Code->Bool
 | .seq a b=>fQ a&&fQ b
 | .cond c a b=>GI B c&&fQ a&&fQ b
 | .block _ b=>fQ b
 | .loop b=>fQ b
 | .region _ ops _=>ops.toList.all λo=>sG B P o.op&&o.op.operands.toList.all (GI B)
 | .skip|.label _|.exit _|.ret=>true
 | _=>false
variable{B P}
theorem zW.sound(hT:∀t,B.T t=true->S.T t):∀(n:Nat)(v:Value),zW B n v=true->VR S v v:=by
 intro n
 induction n with
 | zero=>intro v h;cases h
 | succ n ih=>
  have all:∀c:Array Value,c.toList.all (zW B n)=true->∀(i:Nat)(h1:i<c.size)(h2:i<c.size),VR S c[i] c[i]:=λc hc i h1 h2=>ih _ (aQ.1 hc _ (by simp));intro v h;unfold zW at h;split at h<;>first|(constructor;done)|skip
  ·simp only[aH] at h;exact .iface _ _ _ (hT _ h.1) (ih _ h.2)
  ·exact .agg _ _ rfl (all _ h)
  ·exact .tuple _ _ rfl (all _ h)
  ·cases h
section
variable(hT:∀t,B.T t=true->S.T t)(hF:∀f,B.F f=true->S.F f)
include hT
theorem zh.sound{t:TypeId}(h:zh B P t=true):mF S P t:=by
 intro i z hi hz;unfold zh at h;rw[hi] at h;dsimp only at h;rw[hz] at h;exact zW.sound hT _ _ h
omit hT in
theorem sliceB.sound{t e:TypeId}(h:sliceB P t=some e):P.underlying t=some (.slice e):=by
 unfold sliceB at h;split at h
 ·rename_i e' he;injection h with h;subst h;exact he
 ·cases h
omit hT in
theorem Cm.sound{t:TypeId}(h:Cm P t=true):∃k,P.underlying t=some (.int k):=by
 unfold Cm at h;split at h
 ·rename_i k hk;exact⟨k,hk⟩
 ·cases h
include hF
theorem GI.sound{x:Operand}(h:GI B x=true):Eh S x:=by
 cases x with
 | tmp t=>trivial
 | const v=>exact zW.sound hT _ _ h
 | global g=>cases h
 | func f=>exact hF f h
theorem PV.sound{c:Call}(h:PV B P c=true):Y_ S P c:=by
 unfold PV at h;unfold Y_;split at h<;>rename_i hc
 ·rw[hc];exact hF _ h
 ·rw[hc];dsimp only;split at h
  ·rename_i u hu;obtain⟨e,he⟩:=Rk.1 h;exact⟨e,λu' hu'=>by rw[hu] at hu';injection hu' with hu';subst hu';exact sliceB.sound he⟩
  ·cases h
 ·rw[hc];dsimp only;split at h
  ·rename_i u u' hu hu';split at h
   ·rename_i e e' he he';exact⟨e,e',λx hx=>by rw[hu] at hx;injection hx with hx;subst hx;exact sliceB.sound he,zh.sound hT h,λx hx=>by rw[hu'] at hx;injection hx with hx;subst hx;exact sliceB.sound he'⟩
   ·cases h
  ·cases h
 ·cases h
omit hT hF in
theorem JE.sound{t:TypeId}{y:Operand}(h:JE P t y=true):Td P t y:=by
 unfold JE at h;rw[DC] at h;rcases h with h|h
 ·obtain⟨k,hk⟩:=Cm.sound h;exact .int k hk y
 ·split at h
  ·rename_i ms hms;exact .nil ms hms
  ·cases h
omit hT hF in
theorem Po.sound{s d:TypeId}(h:Po P s d=true):YL P s d:=by
 unfold Po at h;rw[DC,aH] at h;rcases h with⟨h1,h2⟩|h
 ·obtain⟨k,hk⟩:=Cm.sound h1;obtain⟨k',hk'⟩:=Cm.sound h2;exact .int k k' hk hk'
 ·split at h
  ·rename_i e h1 h2;split at h
   ·rename_i h3;exact .bytes e h1 h3 h2
   ·cases h
  ·cases h
theorem sG.sound{o:Op}(h:sG B P o=true):Ie S P o:=by
 cases o<;>first|trivial|(cases h;done)|skip
 case alloc t=>exact zh.sound hT h
 case build t xs=>exact zh.sound hT h
 case buildSlice t n xs=>
  intro e he;have h':(match sliceB P t with|some e=>zh B P e|none=>true)=true:=h;have:sliceB P t=some e:=by unfold sliceB;rw[he]
  rw[this] at h';exact zh.sound hT h'
 case binOp op t x y u=>
  have h':(SV op||(q8 op&&JE P t y))=true:=h;rw[DC,aH] at h';rcases h' with h'|⟨h1,h2⟩
  ·exact .inl h'
  ·refine .inr ⟨?_,JE.sound h2⟩;cases op<;>first|exact .inl rfl|exact .inr rfl|cases h1
 case convert s d x=>exact Po.sound h
 case makeInterface t x=>exact hT _ h
 case call c=>exact PV.sound hT hF h
 case fieldAddr s x f=>
  intro fs g i h1 h2 h3;have h':(match P.underlying s with|some (.struct fs)=>(match fs[f]? with|some g=>(match P.info? g.type with|some i=>i.size != 0|none=>true)|none=>true)|_=>true)=true:=h;rw[h1] at h';dsimp only at h';rw[h2] at h';dsimp only at h';rw[h3] at h';simpa using h'
theorem fQ.sound:∀{c:Code},fQ B P c=true->iO S P Zn.Full c:=by
 intro c
 induction c with
 | seq a b iha ihb=>intro h;simp only[fQ,aH] at h;exact⟨iha h.1,ihb h.2⟩
 | cond c a b iha ihb=>intro h;simp only[fQ,aH] at h;exact⟨⟨GI.sound hT hF h.1.1,λ_ _=>trivial⟩,iha h.1.2,ihb h.2⟩
 | block _ b ih=>intro h;exact ih h
 | loop b ih=>intro h;exact ih h
 | region _ ops _=>
  intro h o ho;have:=aQ.1 (show(ops.toList.all λo=>sG B P o.op&&o.op.operands.toList.all (GI B))=true from h) o (by simpa using ho);simp only[aH] at this
  exact⟨sG.sound hT hF this.1,λx hx=>⟨GI.sound hT hF (aQ.1 this.2 x (by simpa using hx)),λ_ _=>trivial⟩,λ_ _=>trivial⟩
 | skip=>intro _;trivial
 | label _=>intro _;trivial
 | exit _=>intro _;trivial
 | ret=>intro _;trivial
 | _=>intro h;cases h
end
end
end Go.Bi
namespace Go.Zn
section
def Cj(f:Tmp->Bool):Operand->Bool
 | .tmp t=>f t
 | _=>true
def kC(f:Tmp->Bool):Code->Bool
 | .seq a b=>kC f a&&kC f b
 | .cond c a b=>Cj f c&&kC f a&&kC f b
 | .block _ b=>kC f b
 | .loop b=>kC f b
 | .scope b=>kC f b
 | .region _ ops _=>ops.toList.all λo=>o.op.operands.toList.all (Cj f)
 | .rangeFunc _ _ _ _=>false
 | _=>true
def Ci(f:Tmp->Bool):Code->Bool
 | .seq a b=>Ci f a&&Ci f b
 | .cond _ a b=>Ci f a&&Ci f b
 | .block _ b=>Ci f b
 | .loop b=>Ci f b
 | .region _ ops _=>ops.toList.all λo=>match o.dst with|some t=>f t|none=>true
 | _=>true
variable{f:Tmp->Bool}
theorem Cj.sound{x:Operand}(h:Cj f x=true):∀t,x=.tmp t->f t=true:=by
 rintro t rfl;exact h
theorem kC.sound:∀{c:Code},kC f c=true->gX (λt=>f t=true) c:=by
 intro c
 induction c with
 | seq a b iha ihb=>intro h;simp only[kC,aH] at h;exact⟨iha h.1,ihb h.2⟩
 | cond _ a b iha ihb=>intro h;simp only[kC,aH] at h;exact⟨iha h.1.2,ihb h.2⟩
 | block _ b ih=>intro h;exact ih h
 | loop b ih=>intro h;exact ih h
 | scope b ih=>intro h;exact ih h
 | region _ ops _=>
  intro h o ho x hx;have h1:=aQ.1 (show(ops.toList.all λo=>o.op.operands.toList.all (Cj f))=true from h) o (by simpa using ho)
  exact(aQ.1 h1 x (by simpa using hx) |> Cj.sound)
 | rangeFunc _ _ _ _=>intro h;cases h
 | _=>intro _;trivial
theorem BU{S:Bi.Sit}{P:Program}:∀{c:Code},Bi.iO S P Full c->kC f c=true->Ci f c=true->Bi.iO S P (λt=>f t=true) c:=by
 intro c
 induction c with
 | seq a b iha ihb=>intro h hu hd;simp only[kC,Ci,aH] at hu hd;exact⟨iha h.1 hu.1 hd.1,ihb h.2 hu.2 hd.2⟩
 | cond c a b iha ihb=>intro h hu hd;simp only[kC,Ci,aH] at hu hd;exact⟨⟨h.1.1,Cj.sound hu.1.1⟩,iha h.2.1 hu.1.2 hd.1,ihb h.2.2 hu.2 hd.2⟩
 | block _ b ih=>intro h hu hd;exact ih h hu hd
 | loop b ih=>intro h hu hd;exact ih h hu hd
 | region _ ops _=>
  intro h hu hd o ho;obtain⟨h1,h2,h3⟩:=h o ho;have hu1:=aQ.1 (show(ops.toList.all λo=>o.op.operands.toList.all (Cj f))=true from hu) o (by simpa using ho);have hd1:=aQ.1 (show(ops.toList.all λo=>match o.dst with|some t=>f t|none=>true)=true from hd) o (by simpa using ho);refine⟨h1,λx hx=>⟨(h2 x hx).1,(aQ.1 hu1 x (by simpa using hx) |> Cj.sound)⟩,λt ht=>?_⟩;rw[ht] at hd1
  exact hd1
 | skip=>intro h _ _;trivial
 | label _=>intro h _ _;trivial
 | exit _=>intro h _ _;trivial
 | ret=>intro h _ _;trivial
 | _=>intro h;exact(h:False).elim
end
end Go.Zn
namespace Go.Proofs.YtgpbhjjajpbeeaaGreatDoor
section
open Go.RowKit Go.Bi
def sb:SB:={F:=λf=>[61,71,126,127,128,166].contains f,T:=λt=>t==37}
noncomputable def sC(f:Nat):Bool:=match prog.funcs[f]? with
 | some fn=>(match fn.body with|some c=>fQ sb prog c|none=>false)&&fn.name != "runtime.NumGoroutine"
 | none=>false
theorem ub:[61,71,126,127,128,166].all sC=true:=by kernel_rfl
def wF(f:FuncId):Prop:=sb.F f=true
def wT(t:TypeId):Prop:=sb.T t=true
theorem vA{f:FuncId}(h:wF f):∃fn c,prog.funcs[f]?=some fn/\fn.body=some c/\fQ sb prog c=true/\(fn.name== "runtime.NumGoroutine")=false:=by
 have hm:f∈[61,71,126,127,128,166]:=by simpa [wF,sb] using h
 have h1:=aQ.1 ub f hm;unfold sC at h1;split at h1
 ·rename_i fn hfn;rw[aH] at h1;obtain⟨h2,h3⟩:=h1;split at h2
  ·rename_i c hc;exact⟨fn,c,hfn,hc,h2,by simpa using h3⟩
  ·cases h2
 ·cases h1
theorem mn{S:Sit}(hF:S.F=wF)(high:∀b,S.D b->prog.globals.size<=b)(high':∀b,S.D b->prog.globals.size<=S.ren b)(inj:∀a b,S.D a->S.D b->S.ren a=S.ren b->a=b):qp S prog:=
 ⟨⟨⟨high,inj⟩,high'⟩,λf hf=>by
  obtain⟨fn,c,h1,h2,_,h4⟩:=vA (f:=f) (hF▸hf);exact⟨fn,h1,by rw[h2];rfl,h4⟩⟩
theorem c2N{S:Sit}(hF:S.F=wF)(hT:S.T=wT)(f:FuncId)(fn:Func)(c:Code)(hf:S.F f)(h1:prog.funcs[f]?=some fn)(h2:fn.body=some c):iO S prog Zn.Full c:=by
 obtain⟨fn',c',k1,k2,k3,_⟩:=vA (f:=f) (hF▸hf);obtain rfl:=aF (k1.symm.trans h1);obtain rfl:=aF (k2.symm.trans h2);exact fQ.sound (λt ht=>by rw[hT];exact ht) (λf hf=>by rw[hF];exact hf) k3
end
section
open Go.RowKit Go.Conc Go.Conc.Lib Go.Mw Go.Mc Go.Bi
open Go.ConcN (WgLive Has AtR0)
open Pl
open Zn (ext low kk Gr K0 Nx Full tp jh Zf)
set_option linter.unusedSectionVars false
variable[Go.ConcR.Payload]
def fW(t:Tmp):Bool:=[1,2,6,7,8,9,10,11,12].contains t
abbrev xW(t:Tmp):Prop:=fW t=true
theorem v_:Zn.eX zone jB:=Zn.ny.sound (by kernel_rfl)
theorem zr:Zn.gX xW jB:=Zn.kC.sound (by kernel_rfl)
theorem EQ{S:Sit}(hF:S.F=wF)(hT:S.T=wT):iO S prog xW jB:=
 Zn.BU (fQ.sound (B:=sb) (λt ht=>by rw[hT];exact ht) (λf hf=>by rw[hF];exact hf) (by kernel_rfl)) (by kernel_rfl) (by kernel_rfl)
theorem b40{S:Sit}{w w2:World}{base n size:Nat}{e:TypeId}{v v':Value}{xs:List Value}(hW:WR S w w2)(hv:VR S v v')(h:w.ownsRow base e size v n xs)(hfl:∀x∈xs,∀y,VR S x y->y=x):
 oG w2 e size v' n xs/\∀g,v'.ownBlock=some g->∃a,S.D a/\base<=a/\S.ren a=g:=by
 rcases h.2 with⟨rfl,rfl⟩|⟨g,cap,cur,rfl,hb,hg,hnc,hcm,hcs,htake⟩
 ·cases hv;exact⟨⟨h.1,.inl ⟨rfl,rfl⟩⟩,λg hg=>by cases hg⟩
 ·cases hv with
  | slice a n c hD=>
   obtain⟨o',ho',hR⟩:=hW.get hD hg
   cases hR with
   | cells c c' e fr fr' hc hf=>
    refine⟨⟨h.1,.inr ⟨S.ren g,cap,c',fr',rfl,ho',hnc,hcm,hc.size.symm.trans hcs,?_⟩⟩,λk hk=>⟨g,hD,hb,by simpa [Value.ownBlock] using hk⟩⟩;rw[<-htake];apply jR;intro i;rw[dA,dA];split
    ·rename_i hi;rcases hc.get? i with⟨h1,h2⟩|⟨x,y,h1,h2,h3⟩
     ·rw[dG,dG,h1,h2]
     ·rw[dG,dG,h1,h2,hfl x ?_ y h3];rw[<-htake];have:(cur.toList.take (n*size))[i]?=some x:=by rw[dA,if_pos hi,dG,h1]
      exact aJ this
    ·rfl
theorem b0c{S:Sit}(k:Int)(l:List (Nat×Rec)):∀x∈l.flatMap (P7 k),∀y,VR S x y->y=x:=by
 intro x hx y hy;obtain⟨p,_,hp⟩:=zL.1 hx;simp only[P7,aY,iH,or_false] at hp;rcases hp with rfl|rfl|rfl|rfl|rfl|rfl|rfl<;>cases hy<;>rfl
theorem bytes_at{w w':World}(h:∀a,a.block<w.heap.size->w'.cell? a=w.cell? a){v:Value}{l:List UInt8}(hb:Bytes w v l):Bytes w' v l:=by
 obtain⟨a,c,rfl,h1,h2,h3⟩:=hb;refine⟨a,c,rfl,h1,h2,λhx=>?_⟩;obtain⟨b,rfl,h4⟩:=h3 hx;exact⟨b,rfl,λi x hi=>(h _ (lt_of_cell (h4 i x hi))).trans (h4 i x hi)⟩
def AW1(m:Nat)(l:List UInt8)(i:Nat)(F:Frame)(w':World):Prop:=∃a',F=(base 59).at a' K0/\a'.defers=[]/\a'.tmps.size=29/\a'.tmps[1]?=some (.pointer (some ⟨m - 1,0,none⟩))/\∃u,a'.tmps[6]?=some u/\w'.ownsRow m 160 7 u (N7 l).length ((N7 l).flatMap (P7 i))
theorem c0A{i n fc fb rb:Nat}{w:World}{Sh DB:Nat->Prop}{v:Value}{l:List UInt8}(hW:jh zone Sh w)(FT:¬Sh fb)(hfb:w.cell? ⟨fb,0,none⟩=some (.slice (some ⟨rb,0,none⟩) n fc))(hn:i<n/\n<=fc/\n<2147483648)(hc:w.cell? ⟨rb,i,none⟩=some v)(hv:Bytes w v l)(hl:l.length<=1099511627776):
 Zn.su prog zone Sh xW (AW1 (w.heap.size+1) l i) ((base 59).at ⟨vW undef undef undef undef w.heap.size fb,[]⟩ [.code jB]) [] (rF DB w (.cells #[.int .i64 i] 3 (0,1))):=by
 have hwl:jh zone Sh (rF DB w (.cells #[.int .i64 i] 3 (0,1))):=Wl hW (.cells _ _ _ (Zn.AP.one (.int .i64 i)));have pn:¬Sh w.heap.size:=λh=>by have:=hW.sh _ h;omega
 refine b7u (Q0:=λe a' w'=>e=.normal/\a'.defers=[]/\a'.tmps.size=29/\a'.tmps[1]?=some (.pointer (some ⟨w.heap.size+1 - 1,0,none⟩))/\∃u,a'.tmps[6]?=some u/\w'.ownsRow (w.heap.size+1) 160 7 u (N7 l).length ((N7 l).flatMap (P7 i))) Sm ⟨?_,λd hd=>(by cases hd),hwl⟩ rfl v_ zr (λτ p=>?_) ?_ ?_
 ·intro t ht;have hm:t=1\/t=2\/t=6\/t=7\/t=8\/t=9\/t=10\/t=11\/t=12:=by
   have h':fW t=true:=ht;simpa [fW] using h'
  rcases hm with rfl|rfl|rfl|rfl|rfl|rfl|rfl|rfl|rfl
  ·exact .ptr _ ⟨by rw[zF];exact Nat.lt_succ_self _,pn⟩
  ·exact .ptr _ ⟨by rw[zF];exact Nat.lt_succ_of_lt (lt_of_cell hfb),FT⟩
  all_goals exact .tuple _ Zn.AP.nil
 ·have hold:∀a:Addr,a.block<w.heap.size->(tp (rF DB w (.cells #[.int .i64 i] 3 (0,1))) τ p).cell? a=w.cell? a:=λa h=>b9W (D:=DB) h;have hb:(tp (rF DB w (.cells #[.int .i64 i] 3 (0,1))) τ p).cell? ⟨w.heap.size,0,none⟩=some (.int .i64 i):=by
   show(rF DB w (.cells #[.int .i64 i] 3 (0,1))).cell? _=_;simp[World.cell?,TV]
  refine Code.wp_mono ?_ (xe undef undef undef undef w.heap.size fb rb i n fc v l _ hb ((hold _ (lt_of_cell hfb)).trans hfb) hn.1 hn.2.1 hn.2.2 ((hold _ (lt_of_cell hc)).trans hc) (bytes_at hold hv) hl);intro e a' w' q;cases e<;>first|exact q.elim|skip
  obtain⟨q1,q1',W_,u,q2,q3,-⟩:=q;refine⟨rfl,q1,q1',W_,u,q2,?_⟩;have e1:(tp (rF DB w (.cells #[.int .i64 i] 3 (0,1))) τ p).heap.size=w.heap.size+1:=zF;rw[e1] at q3;exact q3
 ·rintro e a' w' ⟨rfl,h1,h2⟩;exact⟨rfl,a',rfl,h1,h2⟩
 ·rintro F w' ⟨a',rfl,_⟩;exact⟨a',rfl⟩
theorem vz(T:Array Value)(hT:T.size=29):T=#[T.getD 0 undef,T.getD 1 undef,T.getD 2 undef,T.getD 3 undef,T.getD 4 undef,T.getD 5 undef,T.getD 6 undef,T.getD 7 undef,T.getD 8 undef,T.getD 9 undef,T.getD 10 undef,T.getD 11 undef,T.getD 12 undef,T.getD 13 undef,T.getD 14 undef,T.getD 15 undef,T.getD 16 undef,T.getD 17 undef,T.getD 18 undef,T.getD 19 undef,T.getD 20 undef,T.getD 21 undef,T.getD 22 undef,T.getD 23 undef,T.getD 24 undef,T.getD 25 undef,T.getD 26 undef,T.getD 27 undef,T.getD 28 undef]:=by
 apply Array.ext
 ·exact hT
 intro j h1 h2;have hg:∀k(h:k<T.size),T[k]=T.getD k undef:=λk h=>by simp[Array.getD,h]
 rw[hg];have h3:j<29:=by omega
 match j,h3 with
 | 0,_=>rfl
 | 1,_=>rfl
 | 2,_=>rfl
 | 3,_=>rfl
 | 4,_=>rfl
 | 5,_=>rfl
 | 6,_=>rfl
 | 7,_=>rfl
 | 8,_=>rfl
 | 9,_=>rfl
 | 10,_=>rfl
 | 11,_=>rfl
 | 12,_=>rfl
 | 13,_=>rfl
 | 14,_=>rfl
 | 15,_=>rfl
 | 16,_=>rfl
 | 17,_=>rfl
 | 18,_=>rfl
 | 19,_=>rfl
 | 20,_=>rfl
 | 21,_=>rfl
 | 22,_=>rfl
 | 23,_=>rfl
 | 24,_=>rfl
 | 25,_=>rfl
 | 26,_=>rfl
 | 27,_=>rfl
 | 28,_=>rfl
 | k+29,h=>exact absurd h (by omega)
theorem UT{f:FuncId}(h:wF f):zone.F f:=by
 have hm:f∈[61,71,126,127,128,166]:=by simpa [wF,sb] using h
 have:[61,71,126,127,128,166].all (λf=>fs.testBit f)=true:=by decide +kernel
 exact aQ.1 this f hm
theorem US{Z:Pz}{i bx n fc fb rb:Nat}{w w2:World}{Sh DB:Nat->Prop}{v:Value}{l:List UInt8}{Stop:(Nat->Prop)->Goroutine->World->Prop}(hZ:jY Z)(hP:Z.P=prog)(hW:jh zone Sh w)(V0 V3 V4 V5:Value)(ds:List Deferred)
 (hDB:∀b,DB b->prog.globals.size<=b/\b<w.heap.size/\Z.lN b/\w2.heap[b]?=w.heap[b]?/\∃c e fr,w.heap[b]?=some (.cells c e fr)/\∀v∈c,Plain DB v)(NU:DB fb)(FT:¬Sh fb)
 (hfb:w.cell? ⟨fb,0,none⟩=some (.slice (some ⟨rb,0,none⟩) n fc))(hn:i<n/\n<=fc/\n<2147483648)(hc:w.cell? ⟨rb,i,none⟩=some v)(hv:Bytes w v l)(hl:l.length<=1099511627776)
 (hbx:w2.heap[bx]?=some (.cells #[.int .i64 i] 3))(hbL:Z.L0<=bx/\w.heap.size<=bx)(hL:Z.L0<=w2.heap.size)(hLw:w.heap.size<=Z.L0)(gl:prog.globals.size<=w.heap.size)
 (hk:∀(O:Nat->Prop)(u V2 x7 x8 x9 x10 x11 x12:Value)(w3:World),Nw Z O w3->¬O bx->Kp Z bx w2 w3->oG w3 160 7 u (N7 l).length ((N7 l).flatMap (P7 i))->(∀g,u.ownBlock=some g->O g)->
   (∀b,O b->∃o,w3.heap[b]?=some o/\Zn.fK {zone with D:=λb=>DB b\/b=bx\/O b} o)->
   ∃T,Ww Z i bx Stop T O (G ((baseD 59).at ⟨#[V0,.pointer (some ⟨bx,0,none⟩),V2,V3,V4,V5,u,x7,x8,x9,x10,x11,x12,undef,undef,undef,undef,undef,undef,undef,undef,undef,undef,undef,undef,undef,undef,undef,undef],ds⟩ [.code (sN 2)]) [bot]) w3):
 ∃T,Ww Z i bx Stop T (λ_=>False) (G ((baseD 59).at ⟨#[V0,.pointer (some ⟨bx,0,none⟩),.pointer (some ⟨fb,0,none⟩),V3,V4,V5,undef,undef,undef,undef,undef,undef,undef,undef,undef,undef,undef,undef,undef,undef,undef,undef,undef,undef,undef,undef,undef,undef,undef],ds⟩ [.code jB,.code (sN 2)]) [bot]) w2:=by
 have Oi:(#[V0,.pointer (some ⟨bx,0,none⟩),.pointer (some ⟨fb,0,none⟩),V3,V4,V5,undef,undef,undef,undef,undef,undef,undef,undef,undef,undef,undef,undef,undef,undef,undef,undef,undef,undef,undef,undef,undef,undef,undef]:Array Value).size=29:=rfl;obtain⟨T2,hT2⟩:∃T2:Array Value,T2=#[V0,.pointer (some ⟨bx,0,none⟩),.pointer (some ⟨fb,0,none⟩),V3,V4,V5,undef,undef,undef,undef,undef,undef,undef,undef,undef,undef,undef,undef,undef,undef,undef,undef,undef,undef,undef,undef,undef,undef,undef]:=⟨_,rfl⟩;rw[<-hT2] at Oi⊢;have XI:=c0A (DB:=DB) hW FT hfb hn hc hv hl;have hDlt:∀b,DB b->b<w.heap.size:=λb h=>(hDB b h).2.1;have hne:∀b,DB b->b≠w.heap.size:=λb h=>by have:=hDlt b h;omega
 have XT:bx<w2.heap.size:=Bi.lt_of_some hbx;have hwr:WR (pY DB wF wT w.heap.size bx (λt=>T2.getD t undef) ds .deferred) (rF DB w (.cells #[.int .i64 i] 3 (0,1))) w2:=
  We (λb h=>⟨(hDB b h).2.1,(hDB b h).2.2.2⟩) hbx hbL.2
 have Bo:∀b,DB b->(pY DB wF wT w.heap.size bx (λt=>T2.getD t undef) ds .deferred).ren b=b:=λb h=>if_neg (hne b h);have xY:(pY DB wF wT w.heap.size bx (λt=>T2.getD t undef) ds .deferred).ren w.heap.size=bx:=if_pos rfl;have hfr:qH (pY DB wF wT w.heap.size bx (λt=>T2.getD t undef) ds .deferred) prog xW [] ((base 59).at ⟨vW undef undef undef undef w.heap.size fb,[]⟩ [.code jB]) ((baseD 59).at ⟨T2,ds⟩ [.code jB]):=by
  refine⟨rfl,Oi,?_,rfl,?_,rfl,.inl rfl,rfl,rfl,⟨by simp[base,Frame.at],by simp[baseD,Frame.at]⟩,λh=>absurd rfl h,rfl,λt _=>rfl,λ_=>⟨rfl,rfl⟩⟩
  ·intro t ht;have hm:t=1\/t=2\/t=6\/t=7\/t=8\/t=9\/t=10\/t=11\/t=12:=by
    have h':fW t=true:=ht;simpa [fW] using h'
   subst hT2;rcases hm with rfl|rfl|rfl|rfl|rfl|rfl|rfl|rfl|rfl
   ·have:=VR.ptr (S:=pY DB wF wT w.heap.size bx (λt=>(#[V0,.pointer (some ⟨bx,0,none⟩),.pointer (some ⟨fb,0,none⟩),V3,V4,V5,undef,undef,undef,undef,undef,undef,undef,undef,undef,undef,undef,undef,undef,undef,undef,undef,undef,undef,undef,undef,undef,undef,undef]:Array Value).getD t undef) ds .deferred) ⟨w.heap.size,0,none⟩ (.inr rfl);unfold rA at this;rw[xY] at this;exact this
   ·have:=VR.ptr (S:=pY DB wF wT w.heap.size bx (λt=>(#[V0,.pointer (some ⟨bx,0,none⟩),.pointer (some ⟨fb,0,none⟩),V3,V4,V5,undef,undef,undef,undef,undef,undef,undef,undef,undef,undef,undef,undef,undef,undef,undef,undef,undef,undef,undef,undef,undef,undef,undef]:Array Value).getD t undef) ds .deferred) ⟨fb,0,none⟩ (.inl NU);unfold rA at this;rw[Bo fb NU] at this;exact this
   all_goals exact Kt
  ·intro x hx;obtain rfl:x=.code jB:=by simpa [Frame.at] using hx
   exact .code _ (EQ rfl rfl)
 have hpq:qp (pY DB wF wT w.heap.size bx (λt=>T2.getD t undef) ds .deferred) prog:=by
  refine mn rfl ?_ ?_ hwr.inj
  ·rintro b (h|rfl)
   ·exact(hDB b h).1
   ·exact gl
  ·rintro b (h|rfl)
   ·rw[Bo b h];exact(hDB b h).1
   ·rw[xY];omega
 have hwk:=Pi (eZ Z bx) (pY DB wF wT w.heap.size bx (λt=>T2.getD t undef) ds .deferred) Sm (λF w τ p h=>h) [.code (sN 2)] [bot] XI _ ((baseD 59).at ⟨T2,ds⟩ [.code jB]) [] w2 (λ_=>False) (.refl _) (λb h=>.inl h)
  (λf fn c=>c2N rfl rfl f fn c) hpq (b9X hDlt _ _) hfr .nil hwr (λb=>⟨λh=>h.elim,λ⟨a,_,h,_⟩=>h.elim⟩) (by
   rintro a (h|rfl)
   ·rw[Bo a h];exact .inl (.inl (hDB a h).2.2.1)
   ·rw[xY];exact .inl (.inr rfl)) (by rw[zF];omega) (by omega)
 have DX:bx≠Z.Al:=by have:=hZ.A0;omega
 have hbC:bx≠Z.Cb:=by have:=hZ.C0;omega
 refine b4f hZ (λ_ h=>h.elim) hL ⟨λh=>h,XT,DX,hbC⟩ (hP▸hwk) ?_;rintro O g w3 ⟨S,fr,jA,wl,hle,hdw,rfl,hF,oo,hcur,pW,hro,⟨a',pD,hda,h29,hu1,u,hu,hown⟩⟩ hN hOb rr;obtain⟨f1,f2,f3,f4,f5,f6,f7⟩:=fr;simp only[ext,Frame.at,Frame.mk.injEq] at pD;obtain⟨rfl,rfl,e3,rfl,rfl,rfl,rfl⟩:=pD;obtain rfl:=To.kQ e3;obtain⟨g1,g2,g3,g4,g5,g6,g7⟩:=jA;obtain⟨c1,c2,c3,c4,c5,c6,c7,c8,c9,c10,c11,c12,c13⟩:=hF;dsimp only at c1 c2 c3 c4 c6 c9;obtain⟨k1,k2⟩:=c13;have k3:=(k2 rfl).2;replace k2:=(k2 rfl).1;dsimp only at k1 k2 k3;subst c1 c4 c6 c9;rw[hle.k.2.1] at k2;rw[hle.k.2.2] at k3;subst k2 k3;rw[hle.k.1] at k1;have hsz:g2.size=29:=by omega
 have kept:∀t,fW t=false->g2.getD t undef=T2.getD t undef:=λt ht=>k1 t λh=>by
  have h':fW t=true:=h;rw[ht] at h';cases h'
 have q1:g2.getD 1 undef=.pointer (some ⟨bx,0,none⟩):=by
  have h1:=c3 1 (show fW 1=true by decide);rw[aA,hu1] at h1;have h2:∀y,VR S (.pointer (some ⟨w.heap.size+1 - 1,0,none⟩)) y->y=.pointer (some ⟨bx,0,none⟩):=by
   intro y hy
   cases hy with
   | ptr a ha=>
    unfold rA;rw[show w.heap.size+1 - 1=w.heap.size from rfl,hle.ren _ (.inr rfl),xY]
  exact h2 _ h1
 have v6:VR S u (g2.getD 6 undef):=by
  have:=c3 6 (show fW 6=true by decide);rw[aA,hu] at this;exact this
 obtain⟨hrow,hrb⟩:=b40 oo v6 hown (b0c i _);have hS0:∀a,S.D a->w.heap.size+1<=a->S.W a:=λa h1 h2=>by
  rcases hdw a h1 with(h|h)|h
  ·have:=hDlt a h;omega
  ·omega
  ·exact h
 have:=hk O (g2.getD 6 undef) (g2.getD 2 undef) (g2.getD 7 undef) (g2.getD 8 undef) (g2.getD 9 undef) (g2.getD 10 undef) (g2.getD 11 undef) (g2.getD 12 undef) w3 hN hOb rr hrow (λg hg=>by
  obtain⟨a,h1,h2,rfl⟩:=hrb g hg;exact(pW _).2 ⟨a,h1,hS0 a h1 h2,rfl⟩) (λb hb=>by
  obtain⟨a,h1,h2,rfl⟩:=(pW b).1 hb;obtain⟨o,o',h3,h4,h5⟩:=oo.obj a h1 (hcur a h1);refine⟨o',h4,h5.right (λb h=>?_) (λf h=>?_) λt _=>rfl⟩
  ·rcases hdw b h with(h|h)|h
   ·rw[hle.ren b (.inl h),Bo b h];exact .inl h
   ·rw[hle.ren b (.inr h),h,xY];exact .inr (.inl rfl)
   ·exact .inr (.inr ((pW _).2 ⟨b,‹_›,h,rfl⟩))
  ·rw[hle.F] at h;exact UT h)
 have e29:=vz g2 hsz;rw[show g2.getD 0 undef=V0 by rw[kept 0 (by decide),hT2];rfl] at e29;rw[show g2.getD 3 undef=V3 by rw[kept 3 (by decide),hT2];rfl] at e29;rw[show g2.getD 4 undef=V4 by rw[kept 4 (by decide),hT2];rfl] at e29;rw[show g2.getD 5 undef=V5 by rw[kept 5 (by decide),hT2];rfl] at e29;rw[show g2.getD 13 undef=undef by rw[kept 13 (by decide),hT2];rfl] at e29;rw[show g2.getD 14 undef=undef by rw[kept 14 (by decide),hT2];rfl] at e29;rw[show g2.getD 15 undef=undef by rw[kept 15 (by decide),hT2];rfl] at e29;rw[show g2.getD 16 undef=undef by rw[kept 16 (by decide),hT2];rfl] at e29;rw[show g2.getD 17 undef=undef by rw[kept 17 (by decide),hT2];rfl] at e29;rw[show g2.getD 18 undef=undef by rw[kept 18 (by decide),hT2];rfl] at e29;rw[show g2.getD 19 undef=undef by rw[kept 19 (by decide),hT2];rfl] at e29;rw[show g2.getD 20 undef=undef by rw[kept 20 (by decide),hT2];rfl] at e29;rw[show g2.getD 21 undef=undef by rw[kept 21 (by decide),hT2];rfl] at e29;rw[show g2.getD 22 undef=undef by rw[kept 22 (by decide),hT2];rfl] at e29;rw[show g2.getD 23 undef=undef by rw[kept 23 (by decide),hT2];rfl] at e29;rw[show g2.getD 24 undef=undef by rw[kept 24 (by decide),hT2];rfl] at e29;rw[show g2.getD 25 undef=undef by rw[kept 25 (by decide),hT2];rfl] at e29;rw[show g2.getD 26 undef=undef by rw[kept 26 (by decide),hT2];rfl] at e29;rw[show g2.getD 27 undef=undef by rw[kept 27 (by decide),hT2];rfl] at e29;rw[show g2.getD 28 undef=undef by rw[kept 28 (by decide),hT2];rfl] at e29;rw[q1] at e29;rw[<-e29] at this;exact this
end
end Go.Proofs.YtgpbhjjajpbeeaaGreatDoor
