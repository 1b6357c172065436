/- A part of what the last file proves. -/
import Derived.Test.YtgpbhjjajpbeeaaGreatDoorR18
set_option linter.all false
set_option maxRecDepth 100000
set_option maxHeartbeats 1600000
namespace Go.Proofs.YtgpbhjjajpbeeaaGreatDoor
section
open Go.RowKit Go.Conc Go.Conc.Lib Go.Mw Go.Mc
open Go.ConcN (WgLive)
set_option linter.unusedSectionVars false
section
variable(Z:Pz)(i bx:Nat)(O:Nat->Prop)
def D2(w w':World)(es:Array Event):Prop:=Nw Z O w->DW Z i bx O O w w' es
theorem N8:Terms (RW Z i bx O) (D2 Z i bx O):=⟨fun _ _ _ h k=>RW.trans Z h k,fun w hN=>a0s hN (by simp)⟩
theorem c4E:LetsDraw (D2 Z i bx O):=fun w hN=>⟨Nat.le_refl _,rfl,rfl,rfl,fun _ _ _ _ _=>rfl,id,id,fun _ _=>rfl,fun _ h=>h,fun _ h=>.inl h,fun b hb=>(hN b hb).2,by simp⟩
theorem c5r(w:World):RW Z i bx O w {w with drawn:=w.drawn+1}:=⟨Nat.le_refl _,fun _ _=>rfl,rfl,fun _ _=>rfl,id,id,id,fun _ _=>rfl⟩
structure HW(w0:World)(mb sx sb ic c1 c2:Nat)(id:Int)(w:World):Prop where
 nw:Nw Z O w
 grow:w0.heap.size<=w.heap.size
 own:∀b,O b->w.heap[b]?=w0.heap[b]?
 eld:Z.Eld mb/\Z.Eld sx/\Z.Eld sb/\Z.Eld ic/\Z.Eld Z.e0
 lt:i<Z.n/\Z.n<=c1/\Z.n<=c2/\Z.n<2147483648
 box:w.heap[bx]?=some (.cells #[.int .i64 i] 3)
 sx:w.cell? ⟨sx,0,none⟩=some (.pointer (some ⟨sb,0,none⟩))
 seg:w.cell? ⟨sb,3,none⟩=some (.slice (some ⟨Z.Cb,0,none⟩) Z.n c1)
 ids:w.cell? ⟨mb,1,none⟩=some (.slice (some ⟨ic,0,none⟩) Z.n c2)
 id:w.cell? ⟨ic,i,none⟩=some (.int .i64 id)
 cb:a0r Z w
 al:a0A Z w
 live:WgLive Z.ty Z.Wg w
 e0:w.cell? ⟨Z.e0,0,none⟩=some Z.v0
variable{Z i bx O}{w0:World}{mb sx sb ic c1 c2:Nat}{id:Int}{w w₁:World}
theorem HW.rely(h:HW Z i bx O w0 mb sx sb ic c1 c2 id w)(r:RW Z i bx O w w₁):HW Z i bx O w0 mb sx sb ic c1 c2 id w₁:=by
 obtain⟨e1,e2,e3,e4,e5⟩:=h.eld;exact⟨h.nw.rely r,Nat.le_trans h.grow r.size,fun b hb=>(r.own b hb).trans (h.own b hb),h.eld,h.lt,r.box.trans h.box,(ConcN.cell_of_block (r.eld _ e2) _).trans h.sx,(ConcN.cell_of_block (r.eld _ e3) _).trans h.seg,(ConcN.cell_of_block (r.eld _ e1) _).trans h.ids,(ConcN.cell_of_block (r.eld _ e4) _).trans h.id,r.cb h.cb,r.al h.al,r.live h.live,(ConcN.cell_of_block (r.eld _ e5) _).trans h.e0⟩
theorem HW.boxc(h:HW Z i bx O w0 mb sx sb ic c1 c2 id w):w.cell? ⟨bx,0,none⟩=some (.int .i64 i):=by simp[World.cell?,h.box]
theorem lt_of_cell{w:World}{a:Addr}{v:Value}(h:w.cell? a=some v):a.block<w.heap.size:=by
 unfold World.cell? at h
 cases e:w.heap[a.block]? with
 | none=>rw[e] at h;cases h
 | some o=>exact Bi.lt_of_some e
theorem evR{w:World}{b k:Nat}{v:Value}(h:w.cell? ⟨b,k,none⟩=some v)(he:Z.Eld b\/b=bx):EvW Z i bx O w.heap.size ⟨.cell ⟨b,k,none⟩,false,false⟩:=⟨lt_of_cell h,.inr ⟨rfl,.inr (.inr ⟨he,rfl⟩)⟩⟩
end
def QW2(Z:Pz)(i bx:Nat)(O:Nat->Prop)(w0:World)(V5:Value)(mb sx sb ic c1 c2:Nat)(id:Int)(u:Value)(ds:List Deferred):Exit->Act->World->Prop
 | .normal,a,w=>HW Z i bx O w0 mb sx sb ic c1 c2 id w/\w.cell? ⟨Z.Cb,2*i,none⟩=some (.int .i64 id)/\w.cell? ⟨Z.Cb,2*i+1,none⟩=some u/\a.defers=ds/\a.tmps.size=29/\a.tmps[5]?=some V5/\a.tmps[6]?=some u
 | _,_,_=>False
theorem QW2.rely{Z:Pz}{i bx:Nat}{O:Nat->Prop}{w0:World}{V5:Value}{mb sx sb ic c1 c2:Nat}{id:Int}{u:Value}{ds:List Deferred}{a:Act}{w w₁:World}(h:QW2 Z i bx O w0 V5 mb sx sb ic c1 c2 id u ds .normal a w)(r:RW Z i bx O w w₁):QW2 Z i bx O w0 V5 mb sx sb ic c1 c2 id u ds .normal a w₁:=by
 obtain⟨h1,h2,h3,h4⟩:=h;exact⟨h1.rely r,(r.cell _ (.inl rfl)).trans h2,(r.cell _ (.inr rfl)).trans h3,h4⟩
theorem a6h(w:World)(a:Addr)(v:Value){b:Nat}(h:a.block≠b):(w.setCell a v).heap[b]?=w.heap[b]?:=by simp[World.setCell,Array.getElem?_modify,h]
theorem a8o(w:World)(a:Addr)(v:Value):(w.setCell a v).heap.size=w.heap.size:=by simp[World.setCell]
theorem b3V{Z:Pz}(w:World)(i:Nat)(v0 v1:Value)(hcb:a0r Z w)(hi:i<Z.n):
 (∀b,b≠Z.Cb->((w.setCell ⟨Z.Cb,i*2,none⟩ v0).setCell ⟨Z.Cb,i*2+1,none⟩ v1).heap[b]?=w.heap[b]?)/\a0r Z ((w.setCell ⟨Z.Cb,i*2,none⟩ v0).setCell ⟨Z.Cb,i*2+1,none⟩ v1)/\
 (∀k,¬myCell i k->((w.setCell ⟨Z.Cb,i*2,none⟩ v0).setCell ⟨Z.Cb,i*2+1,none⟩ v1).cell? ⟨Z.Cb,k,none⟩=w.cell? ⟨Z.Cb,k,none⟩)/\
 ((w.setCell ⟨Z.Cb,i*2,none⟩ v0).setCell ⟨Z.Cb,i*2+1,none⟩ v1).cell? ⟨Z.Cb,2*i,none⟩=some v0/\((w.setCell ⟨Z.Cb,i*2,none⟩ v0).setCell ⟨Z.Cb,i*2+1,none⟩ v1).cell? ⟨Z.Cb,2*i+1,none⟩=some v1:=by
 obtain⟨cs,hcs,hsz⟩:=hcb;have h1:(w.setCell ⟨Z.Cb,i*2,none⟩ v0).heap[Z.Cb]?=some (.cells (cs.setIfInBounds (i*2) v0) Z.tCb):=by simp[World.setCell,Array.getElem?_modify,hcs]
 have h2:((w.setCell ⟨Z.Cb,i*2,none⟩ v0).setCell ⟨Z.Cb,i*2+1,none⟩ v1).heap[Z.Cb]?=some (.cells ((cs.setIfInBounds (i*2) v0).setIfInBounds (i*2+1) v1) Z.tCb):=by
  generalize w.setCell ⟨Z.Cb,i*2,none⟩ v0=w1 at h1;simp[World.setCell,Array.getElem?_modify,h1]
 refine⟨fun b hb=>?_,⟨_,h2,by simp[hsz]⟩,fun k hk=>?_,?_,?_⟩
 ·rw[a6h _ _ _ (Ne.symm hb),a6h _ _ _ (Ne.symm hb)]
 ·unfold myCell at hk;have e1:i*2+1≠k:=by omega
  have e2:i*2≠k:=by omega
  simp only[World.cell?,h2,hcs];simp[Array.getElem?_setIfInBounds_ne e1,Array.getElem?_setIfInBounds_ne e2]
 ·simp only[World.cell?,h2];have e1:i*2+1≠2*i:=by omega
  have e2:i*2=2*i:=by omega
  simp only[Option.isSome_none,Bool.false_eq_true,if_false,Array.getElem?_setIfInBounds_ne e1];rw[e2,Array.getElem?_setIfInBounds_self_of_lt (by omega)]
 ·simp only[World.cell?,h2];have e2:i*2+1=2*i+1:=by omega
  simp only[Option.isSome_none,Bool.false_eq_true,if_false,e2];rw[Array.getElem?_setIfInBounds_self_of_lt (by simp;omega)]
noncomputable def b3W:Code:=Code.head (a1G 2)
abbrev c4F:Oper:={dst:=none,op:=.store 154 (.tmp 25) (.tmp 24),type:=0,pos:= "keydir.go:122",after:=#[{on:=12,ground:=.data},{on:=11,ground:=.data},{on:=0,ground:=.phase},{on:=1,ground:=.phase},{on:=2,ground:=.phase},{on:=3,ground:=.phase},{on:=4,ground:=.phase},{on:=5,ground:=.phase},{on:=6,ground:=.phase},{on:=7,ground:=.phase},{on:=8,ground:=.phase},{on:=9,ground:=.phase},{on:=10,ground:=.phase},{on:=11,ground:=.phase}],guard:=none}
theorem c4G{Z:Pz}{i bx:Nat}{O:Nat->Prop}(w0:World)(hZ:a0a Z)(htC:(3:TypeId)≠Z.tCb)(V0 V2 V5 x7 x8 x9 x10 x11 x12:Value)(mb sx sb ic c1 c2:Nat)(id:Int)(ds:List Deferred)(ua:Option Addr)(um uc:Nat):∃N,∀w,HW Z i bx O w0 mb sx sb ic c1 c2 id w->
 b3W.wpC Tryz.prog false (RW Z i bx O) (D2 Z i bx O) 59 N (QW2 Z i bx O w0 V5 mb sx sb ic c1 c2 id (.slice ua um uc) ds)
  ⟨#[V0,.pointer (some ⟨bx,0,none⟩),V2,.pointer (some ⟨mb,0,none⟩),.pointer (some ⟨sx,0,none⟩),V5,.slice ua um uc,x7,x8,x9,x10,x11,x12,undef,undef,undef,undef,undef,undef,undef,undef,undef,undef,undef,undef,undef,undef,undef,undef],ds⟩ w:=by
 unfold b3W a1G;simp only[Code.behind,Code.head,Tryz.f59,Option.getD_some];co_apply Exists.intro
 intro w hF;have hi:=hF.lt;obtain⟨h1,h2,h3,h5⟩:=hi;have k1:(i:Int)<(Z.n:Int):=by omega
 have k0:(0:Int)<=(i:Int):=by omega
 co_held (N8 Z i bx O) (c4E Z i bx O) (c5r Z i bx O) (HW Z i bx O w0 mb sx sb ic c1 c2 id) HW.rely hF
 co_applyP anyCH_take (N8 Z i bx O) (fun _ _ h r=>HW.rely h r) (fun _ _ _ h r=>QW2.rely h r) (i:=0) rfl (by first|kernel_rfl|decide +kernel) (by first|kernel_rfl|decide +kernel) (by first|kernel_rfl|decide +kernel) (.inl ⟨by rfl,fun _ hw=>⟨run_eq_of ?run0,?guar0⟩⟩) hF ?rest0
 case run0=>
  intro K hK;have hc:=hw.sx;go_simp
  exact hK
 case guar0=>
  have hc:=hw.sx;refine fun hN=>a0s hN ?_;co_evs (exact evR hw.sx (.inl hw.eld.2.1))
 try walk_nrm
 co_applyP anyCH_take (N8 Z i bx O) (fun _ _ h r=>HW.rely h r) (fun _ _ _ h r=>QW2.rely h r) (i:=1) rfl (by first|kernel_rfl|decide +kernel) (by first|kernel_rfl|decide +kernel) (by first|kernel_rfl|decide +kernel) (.inl ⟨by rfl,fun _ hw=>⟨run_eq_of ?run1,?guar1⟩⟩) hF ?rest1
 case run1=>
  intro K hK;skip
  go_simp
  exact hK
 case guar1=>
  skip
  co_still (N8 Z i bx O)
 try walk_nrm
 co_applyP anyCH_take (N8 Z i bx O) (fun _ _ h r=>HW.rely h r) (fun _ _ _ h r=>QW2.rely h r) (i:=2) rfl (by first|kernel_rfl|decide +kernel) (by first|kernel_rfl|decide +kernel) (by first|kernel_rfl|decide +kernel) (.inl ⟨by rfl,fun _ hw=>⟨run_eq_of ?run2,?guar2⟩⟩) hF ?rest2
 case run2=>
  intro K hK;skip
  go_simp
  exact hK
 case guar2=>
  skip
  co_still (N8 Z i bx O)
 try walk_nrm
 co_applyP anyCH_take (N8 Z i bx O) (fun _ _ h r=>HW.rely h r) (fun _ _ _ h r=>QW2.rely h r) (i:=3) rfl (by first|kernel_rfl|decide +kernel) (by first|kernel_rfl|decide +kernel) (by first|kernel_rfl|decide +kernel) (.inl ⟨by rfl,fun _ hw=>⟨run_eq_of ?run3,?guar3⟩⟩) hF ?rest3
 case run3=>
  intro K hK;have hc:=hw.seg;go_simp
  exact hK
 case guar3=>
  have hc:=hw.seg;refine fun hN=>a0s hN ?_;co_evs (exact evR hw.seg (.inl hw.eld.2.2.1))
 try walk_nrm
 co_applyP anyCH_take (N8 Z i bx O) (fun _ _ h r=>HW.rely h r) (fun _ _ _ h r=>QW2.rely h r) (i:=4) rfl (by first|kernel_rfl|decide +kernel) (by first|kernel_rfl|decide +kernel) (by first|kernel_rfl|decide +kernel) (.inl ⟨by rfl,fun _ hw=>⟨run_eq_of ?run4,?guar4⟩⟩) hF ?rest4
 case run4=>
  intro K hK;have hc:=hw.boxc;go_simp
  exact hK
 case guar4=>
  have hc:=hw.boxc;refine fun hN=>a0s hN ?_;co_evs (exact evR hw.boxc (.inr rfl))
 try walk_nrm
 co_applyP anyCH_take (N8 Z i bx O) (fun _ _ h r=>HW.rely h r) (fun _ _ _ h r=>QW2.rely h r) (i:=5) rfl (by first|kernel_rfl|decide +kernel) (by first|kernel_rfl|decide +kernel) (by first|kernel_rfl|decide +kernel) (.inl ⟨by rfl,fun _ hw=>⟨run_eq_of ?run5,?guar5⟩⟩) hF ?rest5
 case run5=>
  intro K hK;skip
  go_simp
  exact hK
 case guar5=>
  skip
  co_still (N8 Z i bx O)
 try walk_nrm
 co_applyP anyCH_take (N8 Z i bx O) (fun _ _ h r=>HW.rely h r) (fun _ _ _ h r=>QW2.rely h r) (i:=6) rfl (by first|kernel_rfl|decide +kernel) (by first|kernel_rfl|decide +kernel) (by first|kernel_rfl|decide +kernel) (.inl ⟨by rfl,fun _ hw=>⟨run_eq_of ?run6,?guar6⟩⟩) hF ?rest6
 case run6=>
  intro K hK;have hc:=hw.ids;go_simp
  exact hK
 case guar6=>
  have hc:=hw.ids;refine fun hN=>a0s hN ?_;co_evs (exact evR hw.ids (.inl hw.eld.1))
 try walk_nrm
 co_applyP anyCH_take (N8 Z i bx O) (fun _ _ h r=>HW.rely h r) (fun _ _ _ h r=>QW2.rely h r) (i:=7) rfl (by first|kernel_rfl|decide +kernel) (by first|kernel_rfl|decide +kernel) (by first|kernel_rfl|decide +kernel) (.inl ⟨by rfl,fun _ hw=>⟨run_eq_of ?run7,?guar7⟩⟩) hF ?rest7
 case run7=>
  intro K hK;have hc:=hw.boxc;go_simp
  exact hK
 case guar7=>
  have hc:=hw.boxc;refine fun hN=>a0s hN ?_;co_evs (exact evR hw.boxc (.inr rfl))
 try walk_nrm
 co_applyP anyCH_take (N8 Z i bx O) (fun _ _ h r=>HW.rely h r) (fun _ _ _ h r=>QW2.rely h r) (i:=8) rfl (by first|kernel_rfl|decide +kernel) (by first|kernel_rfl|decide +kernel) (by first|kernel_rfl|decide +kernel) (.inl ⟨by rfl,fun _ hw=>⟨run_eq_of ?run8,?guar8⟩⟩) hF ?rest8
 case run8=>
  intro K hK;skip
  go_simp
  exact hK
 case guar8=>
  skip
  co_still (N8 Z i bx O)
 try walk_nrm
 co_applyP anyCH_take (N8 Z i bx O) (fun _ _ h r=>HW.rely h r) (fun _ _ _ h r=>QW2.rely h r) (i:=9) rfl (by first|kernel_rfl|decide +kernel) (by first|kernel_rfl|decide +kernel) (by first|kernel_rfl|decide +kernel) (.inl ⟨by rfl,fun _ hw=>⟨run_eq_of ?run9,?guar9⟩⟩) hF ?rest9
 case run9=>
  intro K hK;have hc:=hw.id;go_simp
  exact hK
 case guar9=>
  have hc:=hw.id;refine fun hN=>a0s hN ?_;co_evs (exact evR hw.id (.inl hw.eld.2.2.2.1))
 try walk_nrm
 co_applyP anyCH_take (N8 Z i bx O) (fun _ _ h r=>HW.rely h r) (fun _ _ _ h r=>QW2.rely h r) (i:=10) rfl (by first|kernel_rfl|decide +kernel) (by first|kernel_rfl|decide +kernel) (by first|kernel_rfl|decide +kernel) (.inl ⟨by rfl,fun _ hw=>⟨run_eq_of ?run10,?guar10⟩⟩) hF ?rest10
 case run10=>
  intro K hK;skip
  go_simp
  exact hK
 case guar10=>
  skip
  co_still (N8 Z i bx O)
 try walk_nrm
 co_applyP anyCH_take (N8 Z i bx O) (fun _ _ h r=>HW.rely h r) (fun _ _ _ h r=>QW2.rely h r) (i:=11) rfl (by first|kernel_rfl|decide +kernel) (by first|kernel_rfl|decide +kernel) (by first|kernel_rfl|decide +kernel) (.inl ⟨by rfl,fun _ hw=>⟨run_eq_of ?run11,?guar11⟩⟩) hF ?rest11
 case run11=>
  intro K hK;skip
  go_simp
  exact hK
 case guar11=>
  skip
  co_still (N8 Z i bx O)
 try walk_nrm
 co_applyP anyCH_take (N8 Z i bx O) (fun _ _ h r=>HW.rely h r) (fun _ _ _ h r=>QW2.rely h r) (i:=12) rfl (by first|kernel_rfl|decide +kernel) (by first|kernel_rfl|decide +kernel) (by first|kernel_rfl|decide +kernel) (.inl ⟨by rfl,fun _ hw=>⟨run_eq_of ?run12,?guar12⟩⟩) hF ?rest12
 case run12=>
  intro K hK;skip
  go_simp
  exact hK
 case guar12=>
  skip
  co_still (N8 Z i bx O)
 try walk_nrm
 refine anyCH_all (rs:=[13]) (by first|kernel_rfl|decide +kernel) (by simp) ?_;intro j hj;obtain rfl:j=13:=by simpa using hj
 unfold OpC;simp only[List.getElem?_toArray,List.getElem?_cons_succ,List.getElem?_cons_zero];rw[if_pos (by rfl)];intro w₁ r₁;replace hF:=hF.rely r₁;clear r₁;obtain⟨cs,hcs,hsz⟩:=hF.cb;have c0:w₁.cell? ⟨Z.Cb,i*2,none⟩=some cs[i*2]:=by simp[World.cell?,hcs]
 have c1':w₁.cell? ⟨Z.Cb,i*2+1,none⟩=some cs[i*2+1]:=by simp[World.cell?,hcs]
 have z0:∀k,w₁.frozen? ⟨Z.Cb,k,none⟩=false:=fun k=>by simp[World.frozen?,hcs]
 have d0:∀v,(w₁.setCell ⟨Z.Cb,i*2,none⟩ v).cell? ⟨Z.Cb,i*2+1,none⟩=some cs[i*2+1]:=fun v=>by rw[World.cell?_setCell_other _ _ _ _ (by simp),c1']
 have y0:∀v k,(w₁.setCell ⟨Z.Cb,i*2,none⟩ v).frozen? ⟨Z.Cb,k,none⟩=false:=fun v k=>by rw[World.frozen?_setCell];exact z0 k
 go_simp
 obtain⟨t1,t2,t3,t4,t5⟩:=b3V w₁ i (.int .i64 id) (.slice ua um uc) hF.cb h1;have tsz:((w₁.setCell ⟨Z.Cb,i*2,none⟩ (.int .i64 id)).setCell ⟨Z.Cb,i*2+1,none⟩ (.slice ua um uc)).heap.size=w₁.heap.size:=by rw[a8o,a8o]
 have hbx:bx≠Z.Cb:=fun e=>by
  have:=hF.box;rw[e,hcs] at this;injection this with this;injection this with _ h3 _;exact absurd h3.symm htC
 have hl:Z.Cb<w₁.heap.size:=Bi.lt_of_some hcs;have hw2:HW Z i bx O w0 mb sx sb ic c1 c2 id ((w₁.setCell ⟨Z.Cb,i*2,none⟩ (.int .i64 id)).setCell ⟨Z.Cb,i*2+1,none⟩ (.slice ua um uc)):=by
  obtain⟨e1,e2,e3,e4,e5⟩:=hF.eld;have ne:=fun b(hb:Z.Eld b)=>(hZ.eld b hb).2.2.2.1;refine⟨fun b hb=>by rw[tsz];exact hF.nw b hb,by rw[tsz];exact hF.grow,fun b hb=>(t1 b (fun e=>by have:=(hF.nw b hb).1;have:=hZ.C0;omega)).trans (hF.own b hb),hF.eld,hF.lt,(t1 _ hbx).trans hF.box,(ConcN.cell_of_block (t1 _ (ne _ e2)) _).trans hF.sx,(ConcN.cell_of_block (t1 _ (ne _ e3)) _).trans hF.seg,(ConcN.cell_of_block (t1 _ (ne _ e1)) _).trans hF.ids,(ConcN.cell_of_block (t1 _ (ne _ e4)) _).trans hF.id,t2,?_,?_,(ConcN.cell_of_block (t1 _ (ne _ e5)) _).trans hF.e0⟩
  ·obtain⟨v,hv⟩:=hF.al;exact⟨v,(t1 _ hZ.AC).trans hv⟩
  ·exact a2N (t1 _ hZ.WC) hF.live
 have ev:∀e∈listed Tryz.prog 59 ⟨#[V0,.pointer (some ⟨bx,0,none⟩),V2,.pointer (some ⟨mb,0,none⟩),.pointer (some ⟨sx,0,none⟩),V5,.slice ua um uc,x7,x8,x9,x10,x11,x12,.pointer (some ⟨sb,0,none⟩),.pointer (some ⟨sb,0,none⟩),.pointer (some ⟨sb,3,none⟩),.slice (some ⟨Z.Cb,0,none⟩) Z.n c1,.int .i64 i,.pointer (some ⟨mb,1,none⟩),.slice (some ⟨ic,0,none⟩) Z.n c2,.int .i64 i,.pointer (some ⟨ic,i,none⟩),.int .i64 id,.slice ua um uc,.agg #[.int .i64 id,.slice ua um uc],.pointer (some ⟨Z.Cb,i*2,none⟩),undef,undef,undef],ds⟩ c4F w₁,EvW Z i bx O w₁.heap.size e:=by
  intro e he;have hm:=mem_listed he;unfold c4F at hm;have hse:∀(w:World)(es:Array Event)(a:Addr),(store a (.slice ua um uc) .plain).events Tryz.prog w es=storedEv Tryz.prog w es a (.slice ua um uc) .plain:=fun w es a=>events_store _ _ _ _ _ _ rfl;simp[go_sem,storedEv,c0,c1',d0,z0,y0,hse] at hm;rcases hm with hm|hm<;>subst hm
  ·exact⟨hl,.inr ⟨rfl,.inr (.inl ⟨rfl,rfl,.inl (by show i*2=_;omega)⟩)⟩⟩
  ·exact⟨hl,.inr ⟨rfl,.inr (.inl ⟨rfl,rfl,.inr (by show i*2+1=_;omega)⟩)⟩⟩
 refine⟨fun hN=>⟨Nat.le_of_eq tsz.symm,rfl,rfl,rfl,fun b _ _ _ hb=>t1 b hb,fun _=>hw2.al,fun _=>t2,t3,fun _ h=>h,fun _ h=>.inl h,fun b hb=>by rw[tsz];exact(hN b hb).2,fun e he=>by rw[tsz];exact ev e he⟩,hw2,?_⟩;exact anyCH_done (by first|kernel_rfl|decide +kernel) ⟨hw2,t4,t5,rfl,rfl,rfl,rfl⟩ _
end
section
open Go.RowKit Go.Conc Go.Conc.Lib Go.Mw Go.Mc
open Go.ConcN (WgLive Has AtR0)
set_option linter.unusedSectionVars false
section
variable{Z:Pz}{i bx:Nat}{O:Nat->Prop}{Stop:(Nat->Prop)->Goroutine->World->Prop}{g:Goroutine}{w:World}
theorem b5w{Stop0:Goroutine->World->Prop}{n:Nat}(hN:Nw Z O w)(h:Goes Z.P false (RW Z i bx O) (D2 Z i bx O) Stop0 n g w)(hk:∀g w,Stop0 g w->Nw Z O w->∃T,Ww Z i bx Stop T O g w):∃T,Ww Z i bx Stop T O g w:=by
 obtain⟨T,hT⟩:=Wk.ofGoes (γ:=Nat->Prop) (R:=fun x=>RW Z i bx x) (D:=fun x x' w w' es=>x'=x/\D2 Z i bx x w w' es) (Stop:=fun x g w=>x=O/\Stop0 g w) O (fun _ _ h=>h) (fun _ _ _ h=>⟨rfl,h⟩) (fun _ _ h=>⟨rfl,h⟩) h;have h1:Ww Z i bx (fun x g w=>x=O/\Stop0 g w/\Nw Z O w) T O g w:=by
  refine b4T (fun x w=>x=O/\Nw Z O w) ?_ ?_ ?_ ?_ ⟨rfl,hN⟩ hT
  ·rintro x w w' ⟨rfl,h⟩ r;exact⟨rfl,h.rely r⟩
  ·exact fun x w w' _ r=>r
  ·rintro x x' w w' es ⟨rfl,h⟩ ⟨rfl,d⟩;have:=d h;exact⟨this,rfl,fun b hb=>⟨(h b hb).1,this.in_ b hb⟩⟩
  ·rintro x g w ⟨rfl,h⟩ ⟨_,s⟩;exact⟨rfl,s,h⟩
 refine Wk.bind (R:=RW Z i bx) (RW.refl Z i bx) (fun _ _ _ _ h1 h2=>RW.trans Z h1 h2) h1 ?_;rintro x g w ⟨rfl,h,hn⟩;exact hk g w h hn
end
theorem b84{P:Program}{main:Bool}{R:World->World->Prop}{D:World->World->Array Event->Prop}{fn:FuncId}{Q:Exit->Act->World->Prop}{a:Act}{w:World}{ops:Array Oper}{j:Nat}{rest:List Nat}{o:Oper}{f:FuncId}{fn':Func}{x y:Operand}{ats:Array TypeId}{n:Nat}{k:IntKind}{ad:Addr}{d:Int}
 (ho:ops[j]?=some o)(hw:Region.wanted o (yielded ops a.tmps)=true)(hop:o.op=.call {callee:=.value (.func f),args:=#[x,y],argTypes:=ats})(hf:P.funcs[f]?=some fn')(hname:(fn'.name== "runtime.NumGoroutine")=false)(hb:fn'.body.isNone=true)(hn:Extern.findNext fn'=none)
 (he:Extern.find fn'=some (Extern.Atomic.update (Op.intArith .add) k true))(hx:a.eval x=.pointer (some ad))(hy:a.eval y=.int k d)
 (h:∀w₁,R w w₁->∃v,w₁.cell? ad=some (.int k v)/\w₁.frozen? ad=false/\D w₁ (w₁.setCell ad (.int k (k.wrap (v+d)))) #[⟨.cell ad,false,true⟩,⟨.cell ad,true,true⟩]/\
   OpsC P main R D fn ops rest n Q (a.put o.dst (.int k (k.wrap (v+d)))) (w₁.setCell ad (.int k (k.wrap (v+d))))):OpsC P main R D fn ops (j::rest) (n+1) Q a w:=by
 refine opsC_cons ho hw fun w₁ r=>?_;obtain⟨v,hc,hz,hD,hk⟩:=h w₁ r;have hm:(#[x,y]:Array Operand).map a.eval=#[.pointer (some ad),.int k d]:=by simp[hx,hy]
 have e1:=execOp_call_func (a:=a) hop;have hrun:(execOp a.eval o).run P w₁=.ok (.value (.int k (k.wrap (v+d)))) (w₁.setCell ad (.int k (k.wrap (v+d)))):=by
  rw[e1,run_callFunc_extern hf hname hb hn he,hm,run_add_entry hc hz];rfl
 have hl:listed P fn a o w₁=#[⟨.cell ad,false,true⟩,⟨.cell ad,true,true⟩]:=by
  unfold listed;rw[e1,events_callFunc_extern hf hname hb hn he,hm,events_add_entry hc hz];exact seen_entry fn f _ (sync_rw ad)
 rw[hrun];exact⟨by rw[hl];exact hD,hk⟩
section
variable(Z:Pz)(i bx:Nat)(O:Nat->Prop)(w0:World)(mb sx sb ic c1 c2:Nat)(id:Int)(u:Value)
structure F3(w:World):Prop where
 hw:HW Z i bx O w0 mb sx sb ic c1 c2 id w
 c0:w.cell? ⟨Z.Cb,2*i,none⟩=some (.int .i64 id)
 c1:w.cell? ⟨Z.Cb,2*i+1,none⟩=some u
end
theorem F3.rely{Z:Pz}{i bx:Nat}{O:Nat->Prop}{w0:World}{mb sx sb ic c1 c2:Nat}{id:Int}{u:Value}{w w₁:World}(h:F3 Z i bx O w0 mb sx sb ic c1 c2 id u w)(r:RW Z i bx O w w₁):F3 Z i bx O w0 mb sx sb ic c1 c2 id u w₁:=
 ⟨h.hw.rely r,(r.cell _ (.inl rfl)).trans h.c0,(r.cell _ (.inr rfl)).trans h.c1⟩
noncomputable def a8p:Code:=a1G 3
theorem b6I:a1G 2=.seq b3W a8p:=by kernel_rfl
abbrev b6J:Oper:={dst:=some 26,op:=.move (.tmp 6),type:=151,pos:= "keydir.go:123",after:=#[],guard:=none}
abbrev b3X:Oper:={dst:=some 27,op:=.call {callee:=.builtin .len,args:=#[.tmp 26],argTypes:=#[151]},type:=3,pos:= "keydir.go:123",after:=#[{on:=0,ground:=.data}],guard:=none}
abbrev c3o:Oper:={dst:=some 28,op:=.call {callee:=.value (.func 62),args:=#[.tmp 5,.tmp 27],argTypes:=#[143,2]},type:=2,pos:= "keydir.go:123",after:=#[{on:=1,ground:=.data}],guard:=none}
theorem b6K:a8p=.region 3 #[b6J,b3X,c3o] false:=by kernel_rfl
abbrev c5s:Oper:={dst:=some 4,op:=.assign (.const (.int .i64 0)),type:=2,pos:= "type.go:128",after:=#[],guard:=none}
noncomputable def c4H:Array Oper:=match Code.head (Code.behind 1 (Tryz.f62.body.getD .skip)) with|.region _ ops _=>ops|_=>#[]
theorem c3p:Tryz.f62.body=some (.seq (.region 0 #[c5s] false) (.seq (.region 1 c4H false) .ret)):=by kernel_rfl
theorem c1q:c4H=#[{dst:=some 5,op:=.move (.tmp 0),type:=219,pos:= "type.go:128",after:=#[],guard:=none},
 {dst:=some 6,op:=.nilCheck (.tmp 5),type:=0,pos:= "type.go:128",after:=#[{on:=0,ground:=.data}],guard:=none},
 {dst:=some 7,op:=.fieldAddr 143 (.tmp 6) 2,type:=0,pos:= "type.go:128",after:=#[{on:=1,ground:=.data}],guard:=none},
 {dst:=some 8,op:=.move (.tmp 1),type:=2,pos:= "type.go:128",after:=#[],guard:=none},
 {dst:=some 9,op:=.call {callee:=.value (.func 112),args:=#[.tmp 7,.tmp 8],argTypes:=#[221,2]},type:=2,pos:= "type.go:128",after:=#[{on:=2,ground:=.data},{on:=3,ground:=.data}],guard:=none},
 {dst:=some 4,op:=.assign (.tmp 9),type:=2,pos:= "type.go:128",after:=#[{on:=4,ground:=.data},{on:=4,ground:=.chain},{on:=0,ground:=.phase},{on:=1,ground:=.phase},{on:=2,ground:=.phase},{on:=3,ground:=.phase},{on:=4,ground:=.phase}],guard:=none}]:=by kernel_rfl
theorem b85:Extern.find Tryz.f112=some (Extern.Atomic.update (Op.intArith .add) .i64 true):=by rfl
section
variable{Z:Pz}{i bx:Nat}{O:Nat->Prop}{w0:World}{mb sx sb ic c1 c2:Nat}{id:Int}{u:Value}{w:World}
theorem F3.add(hZ:a0a Z)(hbx:bx≠Z.Al)(h:F3 Z i bx O w0 mb sx sb ic c1 c2 id u w){v:Int}(hv:w.heap[Z.Al]?=some (.cells #[.int .i64 v] Z.tAl))(x:Int):
 F3 Z i bx O w0 mb sx sb ic c1 c2 id u (w.setCell ⟨Z.Al,0,none⟩ (.int .i64 x))/\D2 Z i bx O w (w.setCell ⟨Z.Al,0,none⟩ (.int .i64 x)) #[⟨.cell ⟨Z.Al,0,none⟩,false,true⟩,⟨.cell ⟨Z.Al,0,none⟩,true,true⟩]:=by
 have ho:∀b,b≠Z.Al->(w.setCell ⟨Z.Al,0,none⟩ (.int .i64 x)).heap[b]?=w.heap[b]?:=fun b hb=>a6h _ _ _ (Ne.symm hb);have hs:=a8o w ⟨Z.Al,0,none⟩ (.int .i64 x);have hal:a0A Z (w.setCell ⟨Z.Al,0,none⟩ (.int .i64 x)):=⟨x,by simp[World.setCell,Array.getElem?_modify,hv]⟩;have hcb:a0r Z (w.setCell ⟨Z.Al,0,none⟩ (.int .i64 x)):=by
  obtain⟨cs,h1,h2⟩:=h.hw.cb;exact⟨cs,(ho _ (Ne.symm hZ.AC)).trans h1,h2⟩
 have hl:Z.Al<w.heap.size:=Bi.lt_of_some hv;have hH:=h.hw;obtain⟨e1,e2,e3,e4,e5⟩:=hH.eld;have ne:=fun b(hb:Z.Eld b)=>(hZ.eld b hb).2.2.1;refine⟨⟨⟨fun b hb=>by rw[hs];exact hH.nw b hb,by rw[hs];exact hH.grow,fun b hb=>(ho b (fun e=>by have:=(hH.nw b hb).1;have:=hZ.A0;omega)).trans (hH.own b hb),hH.eld,hH.lt,(ho _ hbx).trans hH.box,(ConcN.cell_of_block (ho _ (ne _ e2)) _).trans hH.sx,(ConcN.cell_of_block (ho _ (ne _ e3)) _).trans hH.seg,(ConcN.cell_of_block (ho _ (ne _ e1)) _).trans hH.ids,(ConcN.cell_of_block (ho _ (ne _ e4)) _).trans hH.id,hcb,hal,a2N (ho _ hZ.WA) hH.live,(ConcN.cell_of_block (ho _ (ne _ e5)) _).trans hH.e0⟩,
  (ConcN.cell_of_block (ho _ (Ne.symm hZ.AC)) _).trans h.c0,(ConcN.cell_of_block (ho _ (Ne.symm hZ.AC)) _).trans h.c1⟩,fun hN=>⟨Nat.le_of_eq hs.symm,rfl,rfl,rfl,fun b _ _ hb _=>ho b hb,fun _=>hal,fun _=>hcb,fun k _=>ConcN.cell_of_block (ho _ (Ne.symm hZ.AC)) _,fun _ h=>h,fun _ h=>.inl h,fun b hb=>by rw[hs];exact(hN b hb).2,fun e he=>?_⟩⟩
 simp only[List.mem_toArray,List.mem_cons,List.not_mem_nil,or_false] at he;rcases he with rfl|rfl<;>exact⟨by rw[hs];exact hl,.inl ⟨rfl,rfl⟩⟩
end
theorem c4I{Z:Pz}{i bx:Nat}{O:Nat->Prop}(hZ:a0a Z)(hbx:bx≠Z.Al)(w0:World)(mb sx sb ic c1 c2:Nat)(id:Int)(u:Value)(m:Nat):∃N,∀w,F3 Z i bx O w0 mb sx sb ic c1 c2 id u w->
 CallsC Tryz.prog false (RW Z i bx O) (D2 Z i bx O) 62 #[.pointer (some ⟨Z.Al,0,none⟩),.int .i64 m] N w fun _ w'=>F3 Z i bx O w0 mb sx sb ic c1 c2 id u w':=by
 co_apply Exists.intro
 intro w hF;co_apply callsC_of_wpC Tryz.func62 (by kernel_rfl) c3p
 simp only[Tryz.ntmps62,List.size_toArray,List.length_cons,List.length_nil,Nat.reduceAdd,Nat.reduceSub,Array.replicate_succ,Array.replicate_zero,List.push_toArray,List.append_toArray,List.nil_append,List.cons_append];co_stmt (N8 Z i bx O) F3.rely hF (co_quiet (N8 Z i bx O))
 rw[c1q];co_apply wpC_seq (N8 Z i bx O)
 co_reg (N8 Z i bx O)
 co_op F3.rely hF (co_quiet (N8 Z i bx O))
 co_op F3.rely hF (co_quiet (N8 Z i bx O))
 co_op F3.rely hF (co_quiet (N8 Z i bx O))
 co_op F3.rely hF (co_quiet (N8 Z i bx O))
 co_apply b84 rfl (by rfl) rfl Tryz.func112 (by kernel_rfl) (by kernel_rfl) (by rfl) b85 rfl rfl
 intro w₁ r;replace hF:=F3.rely hF r;obtain⟨v,hv⟩:=hF.hw.al;have hadd:=hF.add hZ hbx hv (IntKind.i64.wrap (v+m));refine⟨v,by simp[World.cell?,hv],by simp[World.frozen?,hv],hadd.2,?_⟩;have hG:=hadd.1;clear hadd hF hv;walk_nrm;co_op F3.rely hG (co_quiet (N8 Z i bx O))
 co_apply opsC_nil (N8 Z i bx O)
 co_then
 co_ctl (N8 Z i bx O)
 exact⟨rfl,_,resultsC_tmp (by rfl) _,hG⟩
end
section
open Go.RowKit Go.Conc Go.Conc.Lib Go.Mw Go.Mc
open Go.ConcN (WgLive Has AtR0)
set_option linter.unusedSectionVars false
variable[Go.ConcR.Payload]
def QW3(Z:Pz)(i bx:Nat)(O:Nat->Prop)(w0:World)(mb sx sb ic c1 c2:Nat)(id:Int)(u:Value)(ds:List Deferred):Exit->Act->World->Prop
 | .normal,a,w=>F3 Z i bx O w0 mb sx sb ic c1 c2 id u w/\a.defers=ds
 | _,_,_=>False
theorem c4J{Z:Pz}{i bx:Nat}{O:Nat->Prop}(hZ:a0a Z)(hbx:bx≠Z.Al)(w0:World)(mb sx sb ic c1 c2:Nat)(id:Int)(ua:Option Addr)(um uc:Nat)(ds:List Deferred):∃N,∀T w,T.size=29->T[5]?=some (.pointer (some ⟨Z.Al,0,none⟩))->T[6]?=some (.slice ua um uc)->F3 Z i bx O w0 mb sx sb ic c1 c2 id (.slice ua um uc) w->
 a8p.wpC Tryz.prog false (RW Z i bx O) (D2 Z i bx O) 59 N (QW3 Z i bx O w0 mb sx sb ic c1 c2 id (.slice ua um uc) ds) ⟨T,ds⟩ w:=by
 obtain⟨nf,hadd⟩:=c4I hZ hbx w0 mb sx sb ic c1 c2 id (.slice ua um uc) um;refine⟨1+nf+3+1+1+1,fun T w hT h5 h6 hF=>?_⟩;rw[b6K];refine wpC_region (N8 Z i bx O) ?_;have hr:List.range (#[b6J,b3X,c3o]:Array Oper).size=[0,1,2]:=by rfl
 rw[hr];have q6:=J7 (ds:=ds) h6;refine opsC_cons (n:=1+nf+3+1) (o:=b6J) rfl (by rfl) fun w₁ r₁=>?_;have hF1:=F3.rely hF r₁;have e1:(execOp (Act.eval ⟨T,ds⟩) b6J).run Tryz.prog w₁=.ok (.value (.slice ua um uc)) w₁:=by
  show Result.ok (Next.value (Act.eval ⟨T,ds⟩ (.tmp 6))) w₁=_;rw[q6]
 rw[e1];refine⟨fun hN=>a0s hN (by rw[show listed Tryz.prog 59 ⟨T,ds⟩ b6J w₁=#[] from listed_nil (by rfl)];simp),?_⟩;have e0:Act.put ⟨T,ds⟩ b6J.dst (.slice ua um uc)=⟨T.setIfInBounds 26 (.slice ua um uc),ds⟩:=rfl;rw[e0];have t26:(T.setIfInBounds 26 (.slice ua um uc))[26]?=some (.slice ua um uc):=a0m (by omega);have t5:=C9 (u:=.slice ua um uc) (j:=26) h5 (by decide);have hs1:(T.setIfInBounds 26 (.slice ua um uc)).size=29:=by simp[hT]
 generalize T.setIfInBounds 26 (.slice ua um uc)=T1 at t26 t5 hs1⊢;have q26:=J7 (ds:=ds) t26;refine opsC_cons (n:=1+nf+3) (o:=b3X) rfl (by rfl) fun w₂ r₂=>?_;have hF2:=F3.rely hF1 r₂;have hu:Tryz.prog.underlying 151=some (.slice 160):=by kernel_rfl
 have e2:(execOp (Act.eval ⟨T1,ds⟩) b3X).run Tryz.prog w₂=.ok (.value (.int .i64 um)) w₂:=by
  generalize Act.eval ⟨T1,ds⟩ = ρ at q26;simp[go_sem,q26,hu]
 have e3:(execOp (Act.eval ⟨T1,ds⟩) b3X).events Tryz.prog w₂ #[]=#[]:=by
  generalize Act.eval ⟨T1,ds⟩ = ρ at q26;simp[go_sem,q26,hu]
 rw[e2];refine⟨fun hN=>a0s hN (by rw[show listed Tryz.prog 59 ⟨T1,ds⟩ b3X w₂=#[] from listed_nil e3];simp),?_⟩;have e4:Act.put ⟨T1,ds⟩ b3X.dst (.int .i64 um)=⟨T1.setIfInBounds 27 (.int .i64 um),ds⟩:=rfl;rw[e4];have t27:(T1.setIfInBounds 27 (.int .i64 um))[27]?=some (.int .i64 um):=a0m (by omega);replace t5:=C9 (u:=.int .i64 um) (j:=27) t5 (by decide);generalize T1.setIfInBounds 27 (.int .i64 um)=T2 at t27 t5⊢;refine opsC_call (n:=1) (N8 Z i bx O) (o:=c3o) rfl (by rfl) rfl (Post:=fun _ w'=>F3 Z i bx O w0 mb sx sb ic c1 c2 id (.slice ua um uc) w') ?_ fun v w' hF'=>?_
 ·have ea:(#[.tmp 5,.tmp 27]:Array Operand).map (Act.eval ⟨T2,ds⟩)=#[.pointer (some ⟨Z.Al,0,none⟩),.int .i64 um]:=by
   simp only[List.map_toArray,List.map_cons,List.map_nil];rw[J7 t5,J7 t27]
  rw[ea];exact hadd w₂ hF2
 ·exact opsC_nil (N8 Z i bx O) ⟨hF',rfl⟩
theorem c1r{Z:Pz}{i bx:Nat}{O:Nat->Prop}{w w₁:World}(hZ:a0a Z)(h:RW Z i bx O w w₁):ConcN.RW Z.ty Z.Wg Z.e0 Z.n 0 0 w w₁:=Mc.rw_lib hZ h
theorem b86{Z:Pz}{i bx:Nat}{O:Nat->Prop}(hZ:a0a Z)(hP:Z.P=Tryz.prog)(hty:Z.ty=149)(w0:World)(mb sx sb ic c1 c2:Nat)(id:Int)(u:Value)(T:Array Value)
 (hres:∀w,F3 Z i bx O w0 mb sx sb ic c1 c2 id u w->Z.Res i bx O w)(w:World)(hF:F3 Z i bx O w0 mb sx sb ic c1 c2 id u w):
 ∃Tr,Ww Z i bx (At7 Z i bx) Tr O (G ((baseD 59).at ⟨T,[dcall 60 #[.pointer (some ⟨Z.Wg,0,none⟩)]]⟩ []) [bot]) w:=by
 have hN:=hF.hw.nw;refine a1O hN rfl (fun _=>stepG_end) ?_;refine a1O hN rfl (fun _=>stepG_unwind_enter (ds:=[]) rfl (by rw[hP];exact wgLib.f_done) (by kernel_rfl) rfl) ?_;have hs:=b4P (P:=Tryz.prog) (Wg:=Z.Wg) (C:=Z.e0) (n:=Z.n) (Low:=0) (k:=1) (val:=Z.v0) wgLib (c:={(baseD 59).at ⟨T,[]⟩ [] with mode:=.returning}) (cs:=[bot]) rfl (quits_tail T) w ⟨by have:=hF.hw.live;rw[hty] at this;exact this,hF.hw.e0⟩;obtain⟨Tr,hT⟩:=Wk.ofGoes (γ:=Nat->Prop) (R:=fun _=>ConcN.RW 149 Z.Wg Z.e0 Z.n 0 0) (D:=fun x x' w w' es=>x'=x/\ConcR.DC0 w w' es) (Stop:=fun _ g w=>AtR0 Tryz.prog 149 Z.Wg Z.e0 Z.n 0 1 Z.v0 g w) O (fun _ _ h=>h) (fun _ _ _ h=>⟨rfl,h⟩) (fun _ _ h=>h) hs;refine⟨Tr,?_⟩;unfold Ww;rw[hP];refine b4T (fun x w=>x=O/\F3 Z i bx O w0 mb sx sb ic c1 c2 id u w) ?_ ?_ ?_ ?_ ⟨rfl,hF⟩ hT
 ·rintro x w w' ⟨rfl,h⟩ r;exact⟨rfl,h.rely r⟩
 ·rintro x w w' _ r;have:=c1r hZ r;rw[hty] at this;exact this
 ·rintro x x' w w' es ⟨rfl,h⟩ ⟨rfl,rfl,rfl⟩;exact⟨a0s h.hw.nw (by simp),rfl,h⟩
 ·rintro x g w ⟨rfl,h⟩ s;refine⟨?_,hres w h⟩;rw[hP,hty];exact s
theorem b6L{Z:Pz}{i bx:Nat}{O:Nat->Prop}(hZ:a0a Z)(hP:Z.P=Tryz.prog)(hty:Z.ty=149)(htC:(3:TypeId)≠Z.tCb)(hbx:bx≠Z.Al)(w0:World)(V2 x7 x8 x9 x10 x11 x12:Value)(mb sx sb ic c1 c2:Nat)(id:Int)(ua:Option Addr)(um uc:Nat)
 (hres:∀w,F3 Z i bx O w0 mb sx sb ic c1 c2 id (.slice ua um uc) w->Z.Res i bx O w)(w:World)(hF:HW Z i bx O w0 mb sx sb ic c1 c2 id w):
 ∃Tr,Ww Z i bx (At7 Z i bx) Tr O (G ((baseD 59).at ⟨#[.pointer (some ⟨Z.Wg,0,none⟩),.pointer (some ⟨bx,0,none⟩),V2,.pointer (some ⟨mb,0,none⟩),.pointer (some ⟨sx,0,none⟩),.pointer (some ⟨Z.Al,0,none⟩),.slice ua um uc,x7,x8,x9,x10,x11,x12,undef,undef,undef,undef,undef,undef,undef,undef,undef,undef,undef,undef,undef,undef,undef,undef],
  [dcall 60 #[.pointer (some ⟨Z.Wg,0,none⟩)]]⟩ [.code (a1G 2)]) [bot]) w:=by
 have hN:=hF.nw;obtain⟨N2,h2⟩:=c4G w0 hZ htC (.pointer (some ⟨Z.Wg,0,none⟩)) V2 (.pointer (some ⟨Z.Al,0,none⟩)) x7 x8 x9 x10 x11 x12 mb sx sb ic c1 c2 id [dcall 60 #[.pointer (some ⟨Z.Wg,0,none⟩)]] ua um uc (i:=i) (bx:=bx) (O:=O);obtain⟨N3,h3⟩:=c4J hZ hbx w0 mb sx sb ic c1 c2 id ua um uc [dcall 60 #[.pointer (some ⟨Z.Wg,0,none⟩)]] (i:=i) (O:=O);rw[b6I];refine a1O hN rfl (fun _=>stepG_seq) ?_;have g2:=wpC_goes (b:=baseD 59) (k:=[.code a8p]) (cs:=[bot]) (m:=0) (Stop:=fun g w=>∃a',g=G ((baseD 59).at a' [.code a8p]) [bot]/\QW2 Z i bx O w0 (.pointer (some ⟨Z.Al,0,none⟩)) mb sx sb ic c1 c2 id (.slice ua um uc) [dcall 60 #[.pointer (some ⟨Z.Wg,0,none⟩)]] .normal a' w) (h2 w hF) rfl (by simp[baseD]) fun e a' w' q=>by
  cases e<;>first|exact q.elim|exact fun w₁ r=>⟨a',rfl,q.rely r⟩
 refine b5w hN (hP▸g2) ?_;rintro _ w₁ ⟨a',rfl,q1,q2,q3,q4,q5,q6,q7⟩ hN1;obtain⟨T1,ds1⟩:=a';dsimp only at q4 q5 q6 q7;subst q4;have g3:=wpC_goes (b:=baseD 59) (k:=[]) (cs:=[bot]) (m:=0) (Stop:=fun g w=>∃T,g=G ((baseD 59).at ⟨T,[dcall 60 #[.pointer (some ⟨Z.Wg,0,none⟩)]]⟩ []) [bot]/\F3 Z i bx O w0 mb sx sb ic c1 c2 id (.slice ua um uc) w) (h3 T1 w₁ q5 q6 q7 ⟨q1,q2,q3⟩) rfl (by simp[baseD]) fun e a' w' q=>by
  cases e<;>first|exact q.elim|skip
  obtain⟨q1,q2⟩:=q;obtain⟨T,ds⟩:=a';dsimp only at q2;subst q2;exact fun w₁ r=>⟨T,rfl,q1.rely r⟩
 refine b5w hN1 (hP▸g3) ?_;rintro _ w₂ ⟨T2,rfl,hF2⟩ _;exact b86 hZ hP hty w0 mb sx sb ic c1 c2 id _ T2 hres w₂ hF2
end
end Go.Proofs.YtgpbhjjajpbeeaaGreatDoor
namespace Go.Bi
section
open Zn (ext low kk Gr K0 Nx Full tp WPs Zf)
def b0Z:Obj->Obj
 | .cells c e fr=>.cells c e (0,max c.size fr.2)
 | o=>o
open Classical in
noncomputable def ice(D:Nat->Prop)(w:World)(o:Obj):World:={w with heap:=(w.heap.mapIdx fun b x=>if D b then b0Z x else x).push o}
section
variable{D:Nat->Prop}{w:World}{o:Obj}
theorem a0q:(ice D w o).heap.size=w.heap.size+1:=by simp[ice]
open Classical in
theorem a7K{b:Nat}(h:b<w.heap.size):(ice D w o).heap[b]?=(w.heap[b]?).map fun x=>if D b then b0Z x else x:=by
 unfold ice;rw[Array.getElem?_push,if_neg (by simp;omega),Array.getElem?_mapIdx]
theorem a7L:(ice D w o).heap[w.heap.size]?=some o:=by
 unfold ice;rw[Array.getElem?_push,if_pos (by simp)]
theorem b8z{a:Addr}(h:a.block<w.heap.size):(ice D w o).cell? a=w.cell? a:=by
 unfold World.cell?;rw[a7K h]
 cases hb:w.heap[a.block]? with
 | none=>rfl
 | some x=>
  by_cases hd:D a.block
  ·simp only[Option.map_some,if_pos hd];cases x<;>rfl
  ·simp only[Option.map_some,if_neg hd]
theorem c1h{Z:Zn.Zone}{Sh:Nat->Prop}(h:WPs Z Sh w)(ho:Zn.ObjP (Zf Z Sh (w.heap.size+1)) o):WPs Z Sh (ice D w o):=by
 have mono:∀{x:Obj},Zn.ObjP (Zf Z Sh w.heap.size) x->Zn.ObjP (Zf Z Sh (w.heap.size+1)) x:=fun h=>h.mono (Zn.le_zf (Nat.le_succ _));refine⟨fun b x hb hs hx=>?_,fun b hb=>by rw[a0q];have:=h.sh b hb;omega,fun b hb=>⟨by rw[a0q];have:=(h.base b hb).1;omega,(h.base b hb).2⟩⟩;rw[a0q] at hb⊢;by_cases hlt:b<w.heap.size
 ·rw[a7K hlt] at hx;obtain⟨y,hy,rfl⟩:=Option.map_eq_some_iff.1 hx;have:=mono (h.obj b y hlt hs hy);split
  ·cases this<;>first|exact .cells _ _ _ (by assumption)|(constructor<;>assumption)
  ·exact this
 ·obtain rfl:b=w.heap.size:=by omega
  rw[a7L] at hx;injection hx with hx;exact hx▸ho
end
inductive Plain(D:Nat->Prop):Value->Prop
 | bool (b:Bool):Plain D (.bool b)
 | int (k:IntKind) (n:Int):Plain D (.int k n)
 | string (s:ByteArray):Plain D (.string s)
 | snil (n c:Nat):Plain D (.slice none n c)
 | slice (a:Addr) (n c:Nat) (h:D a.block):Plain D (.slice (some a) n c)
def a3c(D:Nat->Prop)(F:FuncId->Prop)(T:TypeId->Prop)(m bx:Nat)(K:Tmp->Value)(Kd:List Deferred)(Kk:CallKind):Sit:=
 {ren:=fun b=>if b=m then bx else b,D:=fun b=>D b\/b=m,F:=F,T:=T,W:=fun _=>False,K:=K,Kd:=Kd,Kk:=Kk}
section
variable{D:Nat->Prop}{F:FuncId->Prop}{T:TypeId->Prop}{bx:Nat}{K:Tmp->Value}{Kd:List Deferred}{Kk:CallKind}{w w2:World}
theorem Plain.vr{m:Nat}(hD:∀b,D b->b≠m){v:Value}(h:Plain D v):VR (a3c D F T m bx K Kd Kk) v v:=by
 cases h with
 | bool b=>exact .bool b
 | int k n=>exact .int k n
 | string s=>exact .string s
 | snil n c=>exact .snil n c
 | slice a n c h=>
  have e:rA (a3c D F T m bx K Kd Kk) a=a:=by
   unfold rA a3c;simp[hD _ h]
  have:=VR.slice (S:=a3c D F T m bx K Kd Kk) a n c (.inl h);rw[e] at this;exact this
theorem b8A(hD:∀b,D b->b<w.heap.size)(v:Value)(t:TypeId):Cur (a3c D F T w.heap.size bx K Kd Kk) (ice D w (.cells #[v] t (0,1))):=by
 rintro b (hb|rfl)
 ·rw[a0q];have:=hD b hb;omega
 ·rw[a0q];omega
open Classical in
theorem c1i{k:IntKind}{n:Int}{t:TypeId}(hD:∀b,D b->b<w.heap.size/\w2.heap[b]?=w.heap[b]?/\∃c e fr,w.heap[b]?=some (.cells c e fr)/\∀v∈c,Plain D v)(hbx:w2.heap[bx]?=some (.cells #[.int k n] t))(hb:w.heap.size<=bx):
 WR (a3c D F T w.heap.size bx K Kd Kk) (ice D w (.cells #[.int k n] t (0,1))) w2:=by
 have hne:∀b,D b->b≠w.heap.size:=fun b h=>by have:=(hD b h).1;omega
 refine⟨?_,?_,?_,?_⟩
 ·rintro a b ha hb' e;have key:∀a,(a3c D F T w.heap.size bx K Kd Kk).D a->(a=w.heap.size/\(a3c D F T w.heap.size bx K Kd Kk).ren a=bx)\/(a<w.heap.size/\(a3c D F T w.heap.size bx K Kd Kk).ren a=a):=by
   rintro a (ha|rfl)
   ·exact .inr ⟨(hD a ha).1,if_neg (hne a ha)⟩
   ·exact .inl ⟨rfl,if_pos rfl⟩
  rcases key a ha with⟨h1,h2⟩|⟨h1,h2⟩<;>rcases key b hb' with⟨h3,h4⟩|⟨h3,h4⟩<;>omega
 ·rintro b hb' (h|rfl)
  ·rw[a0q] at hb';have:=(hD b h).1;omega
  ·rw[a0q] at hb';omega
 ·rintro b (h|rfl) _
  ·obtain⟨h1,h2,c,e,fr,h3,h4⟩:=hD b h;refine⟨b0Z (.cells c e fr),.cells c e fr,by rw[a7K h1,h3];simp[h],?_,?_⟩
   ·rw[show(a3c D F T w.heap.size bx K Kd Kk).ren b=b from if_neg (hne b h),h2];exact h3
   ·refine .cells c c e _ fr ⟨rfl,fun i h5 h6=>(h4 _ (Array.getElem_mem h5)).vr hne⟩ fun i h7 h8=>⟨Nat.zero_le _,Nat.lt_of_lt_of_le h8 (Nat.le_max_right _ _)⟩
  ·refine⟨_,_,a7L,?_,.cells _ _ t _ (0,0) (AR.one (.int k n)) fun i h7 h8=>by simp at h8⟩;rw[show(a3c D F T w.heap.size bx K Kd Kk).ren w.heap.size=bx from if_pos rfl];exact hbx
 ·rintro b c e fr (h|rfl) _ ho i hi
  ·obtain⟨h1,h2,c',e',fr',h3,h4⟩:=hD b h;rw[a7K h1,h3] at ho;simp only[Option.map_some,h,if_true,b0Z,Option.some.injEq,Obj.cells.injEq] at ho;obtain⟨rfl,rfl,rfl⟩:=ho;exact⟨Nat.zero_le _,Nat.lt_of_lt_of_le hi (Nat.le_max_left _ _)⟩
  ·rw[a7L] at ho;simp only[Option.some.injEq,Obj.cells.injEq] at ho;obtain⟨rfl,rfl,rfl⟩:=ho;exact⟨Nat.zero_le _,by simpa using hi⟩
end
theorem VR.right{S:Sit}{Z:Zn.Zone}(hD:∀b,S.D b->Z.D (S.ren b))(hF:∀f,S.F f->Z.F f)(hT:∀t,S.T t->Z.T t){v v':Value}(h:VR S v v'):Zn.VP Z v':=by
 induction h with
 | bool b=>exact .bool b
 | int k n=>exact .int k n
 | string s=>exact .string s
 | pnil=>exact .pnil
 | ptr a h=>exact .ptr _ (hD _ h)
 | snil n c=>exact .snil n c
 | slice a n c h=>exact .slice _ n c (hD _ h)
 | func fn fn' f f' c c' h hf hf' hc hc' ihf ihc=>
  refine .func _ _ _ ?_ ?_ ?_
  ·cases h with
   | func f h=>exact .func f (hF f h)
  ·intro x hx;obtain⟨i,hi,rfl⟩:=Array.mem_iff_getElem.1 hx;exact ihf i (hf▸hi) hi
  ·intro x hx;obtain⟨i,hi,rfl⟩:=Array.mem_iff_getElem.1 hx
   exact ihc i (hc▸hi) hi
 | iface t v v' ht h ih=>exact .iface t v' (hT t ht) ih
 | nilIface=>exact .nilIface
 | agg c c' hc hc' ih=>
  refine .agg _ fun x hx=>?_;obtain⟨i,hi,rfl⟩:=Array.mem_iff_getElem.1 hx
  exact ih i (hc▸hi) hi
 | tuple c c' hc hc' ih=>
  refine .tuple _ fun x hx=>?_;obtain⟨i,hi,rfl⟩:=Array.mem_iff_getElem.1 hx;exact ih i (hc▸hi) hi
theorem a7v.right{S:Sit}{Z:Zn.Zone}(hD:∀b,S.D b->Z.D (S.ren b))(hF:∀f,S.F f->Z.F f)(hT:∀t,S.T t->Z.T t){o o':Obj}(h:a7v S o o'):Zn.ObjP Z o':=by
 cases h with
 | cells c c' e fr fr' h hf=>
  refine .cells _ _ _ fun x hx=>?_;obtain⟨i,hi,rfl⟩:=Array.mem_iff_getElem.1 hx
  exact(h.at_ i (h.size▸hi) hi).right hD hF hT
 | number a l h=>exact .number _ l (hD _ h)
theorem b6i{P:Program}{Z:Zn.Zone}{Sh:Nat->Prop}{X:Tmp->Prop}{b:Frame}{a:Act}{w:World}{c:Code}{Q0:Exit->Act->World->Prop}{A:Frame->World->Prop}(hP:∀Z',Zn.Le Z Z'->Zn.PQK Z' P)(hI:To.Iv Z Sh X a w)(hk:b.kind=.normal)(hc:Zn.CodeP Z c)(hu:Zn.CodeU X c)
 (h:∀τ p,c.wp P Q0 a (tp w τ p))(hQ:∀e a' w',Q0 e a' w'->e=.normal/\A (b.at a' K0) w')(hA:∀F w,A F w->∃a',F=b.at a' K0):Zn.Goe P Z Sh X A (b.at a [.code c]) [] w:=by
 refine Zn.lone_goe (fun F w' hF c hm=>?_) hP (hI.inv hk hc hu) fun τ p=>?_
 ·obtain⟨a',rfl⟩:=hA F w' hF;cases hm
 ·obtain⟨e,a',w',hq,har⟩:=h τ p b K0 [Zn.c0];obtain⟨rfl,hAA⟩:=hQ e a' w' hq;obtain⟨n,hr⟩:=har;exact⟨n,_,hr,_,_,rfl,hAA⟩
end
section
variable{S:Sit}{P:Program}
structure SB where
 F:FuncId->Bool
 T:TypeId->Bool
variable(B:SB)(P:Program)
def a9C:Nat->Value->Bool
 | 0,_=>false
 | n+1,v=>match v with
  | .bool _|.int .. | .string _|.pointer none|.slice none _ _|.nilIface=>true
  | .iface t v=>B.T t&&a9C n v
  | .agg c|.tuple c=>c.toList.all (a9C n)
  | _=>false
def a4g(t:TypeId):Bool:=match P.info? t with
 | some i=>(match i.zero with|some z=>a9C B 6 z|none=>true)
 | none=>true
def b4U:Operand->Bool
 | .tmp _=>true
 | .const v=>a9C B 6 v
 | .global _=>false
 | .func f=>B.F f
def sliceB(t:TypeId):Option TypeId:=match P.underlying t with
 | some (.slice e)=>some e
 | _=>none
def b1L(t:TypeId):Bool:=match P.underlying t with
 | some (.int _)=>true
 | _=>false
def b3j(c:Call):Bool:=match c.callee with
 | .value (.func f)=>B.F f
 | .builtin .len=>(match c.argTypes[0]? with|some u=>(sliceB P u).isSome|none=>false)
 | .builtin .append=>(match c.argTypes[0]?,c.argTypes[1]? with
  | some u,some u'=>(match sliceB P u,sliceB P u' with|some e,some _=>a4g B P e|_,_=>false)
  | _,_=>false)
 | _=>false
def b7I(t:TypeId)(y:Operand):Bool:=b1L P t||(match P.underlying t,y with|some (.interface _),.const .nilIface=>true|_,_=>false)
def cvB(s d:TypeId):Bool:=(b1L P s&&b1L P d)||(match P.underlying s,P.underlying d with
 | some (.slice e),some .string=>(match P.underlying e with|some (.int .u8)=>true|_=>false)
 | _,_=>false)
def c5h:BinOp->Bool
 | .eql|.neq=>true
 | _=>false
def opB(o:Op):Bool:=match o with
 | .move _|.assign _|.pick .. | .load .. | .store .. | .nilCheck _|.extract .. | .indexAddr .. | .slice .. | .unOp ..=>true
 | .alloc t|.build t _=>a4g B P t
 | .buildSlice t _ _=>(match sliceB P t with|some e=>a4g B P e|none=>true)
 | .binOp op t _ y _=>c1b op||(c5h op&&b7I P t y)
 | .convert s d _=>cvB P s d
 | .makeInterface t _=>B.T t
 | .fieldAddr s _ f=>(match P.underlying s with|some (.struct fs)=>(match fs[f]? with|some g=>(match P.info? g.type with|some i=>i.size != 0|none=>true)|none=>true)|_=>true)
 | .call c=>b3j B P c
 | _=>false
def codeB:Code->Bool
 | .seq a b=>codeB a&&codeB b
 | .cond c a b=>b4U B c&&codeB a&&codeB b
 | .block _ b=>codeB b
 | .loop b=>codeB b
 | .region _ ops _=>ops.toList.all fun o=>opB B P o.op&&o.op.operands.toList.all (b4U B)
 | .skip|.label _|.exit _|.ret=>true
 | _=>false
variable{B P}
theorem a9C.sound(hT:∀t,B.T t=true->S.T t):∀(n:Nat)(v:Value),a9C B n v=true->VR S v v:=by
 intro n
 induction n with
 | zero=>intro v h;cases h
 | succ n ih=>
  have all:∀c:Array Value,c.toList.all (a9C B n)=true->∀(i:Nat)(h1:i<c.size)(h2:i<c.size),VR S c[i] c[i]:=fun c hc i h1 h2=>ih _ (List.all_eq_true.1 hc _ (by simp));intro v h;unfold a9C at h;split at h<;>first|(constructor;done)|skip
  ·simp only[Bool.and_eq_true] at h;exact .iface _ _ _ (hT _ h.1) (ih _ h.2)
  ·exact .agg _ _ rfl (all _ h)
  ·exact .tuple _ _ rfl (all _ h)
  ·cases h
section
variable(hT:∀t,B.T t=true->S.T t)(hF:∀f,B.F f=true->S.F f)
include hT
theorem a4g.sound{t:TypeId}(h:a4g B P t=true):ZOK S P t:=by
 intro i z hi hz;unfold a4g at h;rw[hi] at h;dsimp only at h;rw[hz] at h;exact a9C.sound hT _ _ h
omit hT in
theorem sliceB.sound{t e:TypeId}(h:sliceB P t=some e):P.underlying t=some (.slice e):=by
 unfold sliceB at h;split at h
 ·rename_i e' he;injection h with h;subst h;exact he
 ·cases h
omit hT in
theorem b1L.sound{t:TypeId}(h:b1L P t=true):∃k,P.underlying t=some (.int k):=by
 unfold b1L at h;split at h
 ·rename_i k hk;exact⟨k,hk⟩
 ·cases h
include hF
theorem b4U.sound{x:Operand}(h:b4U B x=true):b2g S x:=by
 cases x with
 | tmp t=>trivial
 | const v=>exact a9C.sound hT _ _ h
 | global g=>cases h
 | func f=>exact hF f h
theorem b3j.sound{c:Call}(h:b3j B P c=true):b8w S P c:=by
 unfold b3j at h;unfold b8w;split at h<;>rename_i hc
 ·rw[hc];exact hF _ h
 ·rw[hc];dsimp only;split at h
  ·rename_i u hu;obtain⟨e,he⟩:=Option.isSome_iff_exists.1 h;exact⟨e,fun u' hu'=>by rw[hu] at hu';injection hu' with hu';subst hu';exact sliceB.sound he⟩
  ·cases h
 ·rw[hc];dsimp only;split at h
  ·rename_i u u' hu hu';split at h
   ·rename_i e e' he he';exact⟨e,e',fun x hx=>by rw[hu] at hx;injection hx with hx;subst hx;exact sliceB.sound he,a4g.sound hT h,fun x hx=>by rw[hu'] at hx;injection hx with hx;subst hx;exact sliceB.sound he'⟩
   ·cases h
  ·cases h
 ·cases h
omit hT hF in
theorem b7I.sound{t:TypeId}{y:Operand}(h:b7I P t y=true):b5o P t y:=by
 unfold b7I at h;rw[Bool.or_eq_true] at h;rcases h with h|h
 ·obtain⟨k,hk⟩:=b1L.sound h;exact .int k hk y
 ·split at h
  ·rename_i ms hms;exact .nil ms hms
  ·cases h
omit hT hF in
theorem cvB.sound{s d:TypeId}(h:cvB P s d=true):c3a P s d:=by
 unfold cvB at h;rw[Bool.or_eq_true,Bool.and_eq_true] at h;rcases h with⟨h1,h2⟩|h
 ·obtain⟨k,hk⟩:=b1L.sound h1;obtain⟨k',hk'⟩:=b1L.sound h2;exact .int k k' hk hk'
 ·split at h
  ·rename_i e h1 h2;split at h
   ·rename_i h3;exact .bytes e h1 h3 h2
   ·cases h
  ·cases h
theorem opB.sound{o:Op}(h:opB B P o=true):OpB S P o:=by
 cases o<;>first|trivial|(cases h;done)|skip
 case alloc t=>exact a4g.sound hT h
 case build t xs=>exact a4g.sound hT h
 case buildSlice t n xs=>
  intro e he;have h':(match sliceB P t with|some e=>a4g B P e|none=>true)=true:=h;have:sliceB P t=some e:=by unfold sliceB;rw[he]
  rw[this] at h';exact a4g.sound hT h'
 case binOp op t x y u=>
  have h':(c1b op||(c5h op&&b7I P t y))=true:=h;rw[Bool.or_eq_true,Bool.and_eq_true] at h';rcases h' with h'|⟨h1,h2⟩
  ·exact .inl h'
  ·refine .inr ⟨?_,b7I.sound h2⟩;cases op<;>first|exact .inl rfl|exact .inr rfl|cases h1
 case convert s d x=>exact cvB.sound h
 case makeInterface t x=>exact hT _ h
 case call c=>exact b3j.sound hT hF h
 case fieldAddr s x f=>
  intro fs g i h1 h2 h3;have h':(match P.underlying s with|some (.struct fs)=>(match fs[f]? with|some g=>(match P.info? g.type with|some i=>i.size != 0|none=>true)|none=>true)|_=>true)=true:=h;rw[h1] at h';dsimp only at h';rw[h2] at h';dsimp only at h';rw[h3] at h';simpa using h'
theorem codeB.sound:∀{c:Code},codeB B P c=true->CodeB S P Zn.Full c:=by
 intro c
 induction c with
 | seq a b iha ihb=>intro h;simp only[codeB,Bool.and_eq_true] at h;exact⟨iha h.1,ihb h.2⟩
 | cond c a b iha ihb=>intro h;simp only[codeB,Bool.and_eq_true] at h;exact⟨⟨b4U.sound hT hF h.1.1,fun _ _=>trivial⟩,iha h.1.2,ihb h.2⟩
 | block _ b ih=>intro h;exact ih h
 | loop b ih=>intro h;exact ih h
 | region _ ops _=>
  intro h o ho;have:=List.all_eq_true.1 (show(ops.toList.all fun o=>opB B P o.op&&o.op.operands.toList.all (b4U B))=true from h) o (by simpa using ho);simp only[Bool.and_eq_true] at this
  exact⟨opB.sound hT hF this.1,fun x hx=>⟨b4U.sound hT hF (List.all_eq_true.1 this.2 x (by simpa using hx)),fun _ _=>trivial⟩,fun _ _=>trivial⟩
 | skip=>intro _;trivial
 | label _=>intro _;trivial
 | exit _=>intro _;trivial
 | ret=>intro _;trivial
 | _=>intro h;cases h
end
end
end Go.Bi
namespace Go.Zn
section
def b1M(f:Tmp->Bool):Operand->Bool
 | .tmp t=>f t
 | _=>true
def useB(f:Tmp->Bool):Code->Bool
 | .seq a b=>useB f a&&useB f b
 | .cond c a b=>b1M f c&&useB f a&&useB f b
 | .block _ b=>useB f b
 | .loop b=>useB f b
 | .scope b=>useB f b
 | .region _ ops _=>ops.toList.all fun o=>o.op.operands.toList.all (b1M f)
 | .rangeFunc _ _ _ _=>false
 | _=>true
def b1N(f:Tmp->Bool):Code->Bool
 | .seq a b=>b1N f a&&b1N f b
 | .cond _ a b=>b1N f a&&b1N f b
 | .block _ b=>b1N f b
 | .loop b=>b1N f b
 | .region _ ops _=>ops.toList.all fun o=>match o.dst with|some t=>f t|none=>true
 | _=>true
variable{f:Tmp->Bool}
theorem b1M.sound{x:Operand}(h:b1M f x=true):∀t,x=.tmp t->f t=true:=by
 rintro t rfl;exact h
theorem useB.sound:∀{c:Code},useB f c=true->CodeU (fun t=>f t=true) c:=by
 intro c
 induction c with
 | seq a b iha ihb=>intro h;simp only[useB,Bool.and_eq_true] at h;exact⟨iha h.1,ihb h.2⟩
 | cond _ a b iha ihb=>intro h;simp only[useB,Bool.and_eq_true] at h;exact⟨iha h.1.2,ihb h.2⟩
 | block _ b ih=>intro h;exact ih h
 | loop b ih=>intro h;exact ih h
 | scope b ih=>intro h;exact ih h
 | region _ ops _=>
  intro h o ho x hx;have h1:=List.all_eq_true.1 (show(ops.toList.all fun o=>o.op.operands.toList.all (b1M f))=true from h) o (by simpa using ho)
  exact(List.all_eq_true.1 h1 x (by simpa using hx) |> b1M.sound)
 | rangeFunc _ _ _ _=>intro h;cases h
 | _=>intro _;trivial
theorem codeB_x{S:Bi.Sit}{P:Program}:∀{c:Code},Bi.CodeB S P Full c->useB f c=true->b1N f c=true->Bi.CodeB S P (fun t=>f t=true) c:=by
 intro c
 induction c with
 | seq a b iha ihb=>intro h hu hd;simp only[useB,b1N,Bool.and_eq_true] at hu hd;exact⟨iha h.1 hu.1 hd.1,ihb h.2 hu.2 hd.2⟩
 | cond c a b iha ihb=>intro h hu hd;simp only[useB,b1N,Bool.and_eq_true] at hu hd;exact⟨⟨h.1.1,b1M.sound hu.1.1⟩,iha h.2.1 hu.1.2 hd.1,ihb h.2.2 hu.2 hd.2⟩
 | block _ b ih=>intro h hu hd;exact ih h hu hd
 | loop b ih=>intro h hu hd;exact ih h hu hd
 | region _ ops _=>
  intro h hu hd o ho;obtain⟨h1,h2,h3⟩:=h o ho;have hu1:=List.all_eq_true.1 (show(ops.toList.all fun o=>o.op.operands.toList.all (b1M f))=true from hu) o (by simpa using ho);have hd1:=List.all_eq_true.1 (show(ops.toList.all fun o=>match o.dst with|some t=>f t|none=>true)=true from hd) o (by simpa using ho);refine⟨h1,fun x hx=>⟨(h2 x hx).1,(List.all_eq_true.1 hu1 x (by simpa using hx) |> b1M.sound)⟩,fun t ht=>?_⟩;rw[ht] at hd1
  exact hd1
 | skip=>intro h _ _;trivial
 | label _=>intro h _ _;trivial
 | exit _=>intro h _ _;trivial
 | ret=>intro h _ _;trivial
 | _=>intro h;exact(h:False).elim
end
end Go.Zn
namespace Go.Proofs.YtgpbhjjajpbeeaaGreatDoor
section
open Go.RowKit Go.Bi
def sb:SB:={F:=fun f=>[61,71,126,127,128,166].contains f,T:=fun t=>t==37}
noncomputable def c2R(f:Nat):Bool:=match Tryz.prog.funcs[f]? with
 | some fn=>(match fn.body with|some c=>codeB sb Tryz.prog c|none=>false)&&fn.name != "runtime.NumGoroutine"
 | none=>false
theorem c5Y:[61,71,126,127,128,166].all c2R=true:=by kernel_rfl
def wF(f:FuncId):Prop:=sb.F f=true
def wT(t:TypeId):Prop:=sb.T t=true
theorem b52{f:FuncId}(h:wF f):∃fn c,Tryz.prog.funcs[f]?=some fn/\fn.body=some c/\codeB sb Tryz.prog c=true/\(fn.name== "runtime.NumGoroutine")=false:=by
 have hm:f∈[61,71,126,127,128,166]:=by simpa [wF,sb] using h
 have h1:=List.all_eq_true.1 c5Y f hm;unfold c2R at h1;split at h1
 ·rename_i fn hfn;rw[Bool.and_eq_true] at h1;obtain⟨h2,h3⟩:=h1;split at h2
  ·rename_i c hc;exact⟨fn,c,hfn,hc,h2,by simpa using h3⟩
  ·cases h2
 ·cases h1
theorem pqb{S:Sit}(hF:S.F=wF)(high:∀b,S.D b->Tryz.prog.globals.size<=b)(high':∀b,S.D b->Tryz.prog.globals.size<=S.ren b)(inj:∀a b,S.D a->S.D b->S.ren a=S.ren b->a=b):PQB S Tryz.prog:=
 ⟨⟨⟨high,inj⟩,high'⟩,fun f hf=>by
  obtain⟨fn,c,h1,h2,_,h4⟩:=b52 (f:=f) (hF▸hf);exact⟨fn,h1,by rw[h2];rfl,h4⟩⟩
theorem c0T{S:Sit}(hF:S.F=wF)(hT:S.T=wT)(f:FuncId)(fn:Func)(c:Code)(hf:S.F f)(h1:Tryz.prog.funcs[f]?=some fn)(h2:fn.body=some c):CodeB S Tryz.prog Zn.Full c:=by
 obtain⟨fn',c',k1,k2,k3,_⟩:=b52 (f:=f) (hF▸hf);obtain rfl:=Option.some.inj (k1.symm.trans h1);obtain rfl:=Option.some.inj (k2.symm.trans h2);exact codeB.sound (fun t ht=>by rw[hT];exact ht) (fun f hf=>by rw[hF];exact hf) k3
end
end Go.Proofs.YtgpbhjjajpbeeaaGreatDoor
