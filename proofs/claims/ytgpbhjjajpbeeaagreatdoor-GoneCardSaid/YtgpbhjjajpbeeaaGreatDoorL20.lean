/- A part of what the last file proves. -/
import Derived.Test.YtgpbhjjajpbeeaaGreatDoorL19
set_option linter.all false
set_option maxRecDepth 100000
set_option maxHeartbeats 800000
namespace Go.Proofs.YtgpbhjjajpbeeaaGreatDoor
section
open Go.RowKit Go.Conc Go.Conc.Lib Go.Mw Go.Mc
open Go.ConcN (WgLive Has AtR0)
set_option linter.unusedSectionVars false
section
variable{Z:Pz}{i bx:Nat}{O:Nat->Prop}{Stop:(Nat->Prop)->Goroutine->World->Prop}{g:Goroutine}{w:World}
theorem b51{Stop0:Goroutine->World->Prop}{n:Nat}(hN:Nw Z O w)(h:Goes Z.P false (RW Z i bx O) (D2 Z i bx O) Stop0 n g w)(hk:∀g w,Stop0 g w->Nw Z O w->∃T,Ww Z i bx Stop T O g w):∃T,Ww Z i bx Stop T O g w:=by
 obtain⟨T,hT⟩:=Wk.ofGoes (γ:=Nat->Prop) (R:=fun x=>RW Z i bx x) (D:=fun x x' w w' es=>x'=x/\D2 Z i bx x w w' es) (Stop:=fun x g w=>x=O/\Stop0 g w) O (fun _ _ h=>h) (fun _ _ _ h=>⟨rfl,h⟩) (fun _ _ h=>⟨rfl,h⟩) h;have h1:Ww Z i bx (fun x g w=>x=O/\Stop0 g w/\Nw Z O w) T O g w:=by
  refine b5k (fun x w=>x=O/\Nw Z O w) ?_ ?_ ?_ ?_ ⟨rfl,hN⟩ hT
  ·rintro x w w' ⟨rfl,h⟩ r;exact⟨rfl,h.rely r⟩
  ·exact fun x w w' _ r=>r
  ·rintro x x' w w' es ⟨rfl,h⟩ ⟨rfl,d⟩;have:=d h;exact⟨this,rfl,fun b hb=>⟨(h b hb).1,this.in_ b hb⟩⟩
  ·rintro x g w ⟨rfl,h⟩ ⟨_,s⟩;exact⟨rfl,s,h⟩
 refine Wk.bind (R:=RW Z i bx) (RW.refl Z i bx) (fun _ _ _ _ h1 h2=>RW.trans Z h1 h2) h1 ?_;rintro x g w ⟨rfl,h,hn⟩;exact hk g w h hn
end
theorem b90{P:Program}{main:Bool}{R:World->World->Prop}{D:World->World->Array Event->Prop}{fn:FuncId}{Q:Exit->Act->World->Prop}{a:Act}{w:World}{ops:Array Oper}{j:Nat}{rest:List Nat}{o:Oper}{f:FuncId}{fn':Func}{x y:Operand}{ats:Array TypeId}{n:Nat}{k:IntKind}{ad:Addr}{d:Int}
 (ho:ops[j]?=some o)(hw:Region.wanted o (yielded ops a.tmps)=true)(hop:o.op=.call {callee:=.value (.func f),args:=#[x,y],argTypes:=ats})(hf:P.funcs[f]?=some fn')(hname:(fn'.name== "runtime.NumGoroutine")=false)(hb:fn'.body.isNone=true)(hn:Extern.findNext fn'=none)
 (he:Extern.find fn'=some (Extern.Atomic.update (Op.intArith .add) k true))(hx:a.eval x=.pointer (some ad))(hy:a.eval y=.int k d)
 (h:∀w₁,R w w₁->∃v,w₁.cell? ad=some (.int k v)/\w₁.frozen? ad=false/\D w₁ (w₁.setCell ad (.int k (k.wrap (v+d)))) #[⟨.cell ad,false,true⟩,⟨.cell ad,true,true⟩]/\
   OpsC P main R D fn ops rest n Q (a.put o.dst (.int k (k.wrap (v+d)))) (w₁.setCell ad (.int k (k.wrap (v+d))))):OpsC P main R D fn ops (j::rest) (n+1) Q a w:=by
 refine opsC_cons ho hw fun w₁ r=>?_;obtain⟨v,hc,hz,hD,hk⟩:=h w₁ r;have hm:(#[x,y]:Array Operand).map a.eval=#[.pointer (some ad),.int k d]:=by simp[hx,hy]
 have e1:=execOp_call_func (a:=a) hop;have hrun:(execOp a.eval o).run P w₁=.ok (.value (.int k (k.wrap (v+d)))) (w₁.setCell ad (.int k (k.wrap (v+d)))):=by
  rw[e1,run_callFunc_extern hf hname hb hn he,hm,run_add_entry hc hz];rfl
 have hl:listed P fn a o w₁=#[⟨.cell ad,false,true⟩,⟨.cell ad,true,true⟩]:=by
  unfold listed;rw[e1,events_callFunc_extern hf hname hb hn he,hm,events_add_entry hc hz];exact seen_entry fn f _ (sync_rw ad)
 rw[hrun];exact⟨by rw[hl];exact hD,hk⟩
section
variable(Z:Pz)(i bx:Nat)(O:Nat->Prop)(w0:World)(mb sx sb ic c1 c2:Nat)(id:Int)(u:Value)
structure F3(w:World):Prop where
 hw:HW Z i bx O w0 mb sx sb ic c1 c2 id w
 c0:w.cell? ⟨Z.Cb,2*i,none⟩=some (.int .i64 id)
 c1:w.cell? ⟨Z.Cb,2*i+1,none⟩=some u
end
theorem F3.rely{Z:Pz}{i bx:Nat}{O:Nat->Prop}{w0:World}{mb sx sb ic c1 c2:Nat}{id:Int}{u:Value}{w w₁:World}(h:F3 Z i bx O w0 mb sx sb ic c1 c2 id u w)(r:RW Z i bx O w w₁):F3 Z i bx O w0 mb sx sb ic c1 c2 id u w₁:=
 ⟨h.hw.rely r,(r.cell _ (.inl rfl)).trans h.c0,(r.cell _ (.inr rfl)).trans h.c1⟩
noncomputable def a8N:Code:=a1I 3
theorem b7r:a1I 2=.seq b4r a8N:=by kernel_rfl
abbrev b7s:Oper:={dst:=some 26,op:=.move (.tmp 6),type:=151,pos:= "keydir.go:123",after:=#[],guard:=none}
abbrev b4s:Oper:={dst:=some 27,op:=.call {callee:=.builtin .len,args:=#[.tmp 26],argTypes:=#[151]},type:=3,pos:= "keydir.go:123",after:=#[{on:=0,ground:=.data}],guard:=none}
abbrev c4A:Oper:={dst:=some 28,op:=.call {callee:=.value (.func 62),args:=#[.tmp 5,.tmp 27],argTypes:=#[143,2]},type:=2,pos:= "keydir.go:123",after:=#[{on:=1,ground:=.data}],guard:=none}
theorem b7t:a8N=.region 3 #[b7s,b4s,c4A] false:=by kernel_rfl
abbrev c6y:Oper:={dst:=some 4,op:=.assign (.const (.int .i64 0)),type:=2,pos:= "type.go:128",after:=#[],guard:=none}
noncomputable def c54:Array Oper:=match Code.head (Code.behind 1 (Tryz.f62.body.getD .skip)) with|.region _ ops _=>ops|_=>#[]
theorem c4B:Tryz.f62.body=some (.seq (.region 0 #[c6y] false) (.seq (.region 1 c54 false) .ret)):=by kernel_rfl
theorem c2F:c54=#[{dst:=some 5,op:=.move (.tmp 0),type:=219,pos:= "type.go:128",after:=#[],guard:=none},
 {dst:=some 6,op:=.nilCheck (.tmp 5),type:=0,pos:= "type.go:128",after:=#[{on:=0,ground:=.data}],guard:=none},
 {dst:=some 7,op:=.fieldAddr 143 (.tmp 6) 2,type:=0,pos:= "type.go:128",after:=#[{on:=1,ground:=.data}],guard:=none},
 {dst:=some 8,op:=.move (.tmp 1),type:=2,pos:= "type.go:128",after:=#[],guard:=none},
 {dst:=some 9,op:=.call {callee:=.value (.func 112),args:=#[.tmp 7,.tmp 8],argTypes:=#[221,2]},type:=2,pos:= "type.go:128",after:=#[{on:=2,ground:=.data},{on:=3,ground:=.data}],guard:=none},
 {dst:=some 4,op:=.assign (.tmp 9),type:=2,pos:= "type.go:128",after:=#[{on:=4,ground:=.data},{on:=4,ground:=.chain},{on:=0,ground:=.phase},{on:=1,ground:=.phase},{on:=2,ground:=.phase},{on:=3,ground:=.phase},{on:=4,ground:=.phase}],guard:=none}]:=by kernel_rfl
theorem b91:Extern.find Tryz.f112=some (Extern.Atomic.update (Op.intArith .add) .i64 true):=by rfl
section
variable{Z:Pz}{i bx:Nat}{O:Nat->Prop}{w0:World}{mb sx sb ic c1 c2:Nat}{id:Int}{u:Value}{w:World}
theorem F3.add(hZ:a0f Z)(hbx:bx≠Z.Al)(h:F3 Z i bx O w0 mb sx sb ic c1 c2 id u w){v:Int}(hv:w.heap[Z.Al]?=some (.cells #[.int .i64 v] Z.tAl))(x:Int):
 F3 Z i bx O w0 mb sx sb ic c1 c2 id u (w.setCell ⟨Z.Al,0,none⟩ (.int .i64 x))/\D2 Z i bx O w (w.setCell ⟨Z.Al,0,none⟩ (.int .i64 x)) #[⟨.cell ⟨Z.Al,0,none⟩,false,true⟩,⟨.cell ⟨Z.Al,0,none⟩,true,true⟩]:=by
 have ho:∀b,b≠Z.Al->(w.setCell ⟨Z.Al,0,none⟩ (.int .i64 x)).heap[b]?=w.heap[b]?:=fun b hb=>a6y _ _ _ (Ne.symm hb);have hs:=a8M w ⟨Z.Al,0,none⟩ (.int .i64 x);have hal:a0D Z (w.setCell ⟨Z.Al,0,none⟩ (.int .i64 x)):=⟨x,by simp[World.setCell,Array.getElem?_modify,hv]⟩;have hcb:a0t Z (w.setCell ⟨Z.Al,0,none⟩ (.int .i64 x)):=by
  obtain⟨cs,h1,h2⟩:=h.hw.cb;exact⟨cs,(ho _ (Ne.symm hZ.AC)).trans h1,h2⟩
 have hl:Z.Al<w.heap.size:=Bi.lt_of_some hv;have hH:=h.hw;obtain⟨e1,e2,e3,e4,e5⟩:=hH.eld;have ne:=fun b(hb:Z.Eld b)=>(hZ.eld b hb).2.2.1;refine⟨⟨⟨fun b hb=>by rw[hs];exact hH.nw b hb,by rw[hs];exact hH.grow,fun b hb=>(ho b (fun e=>by have:=(hH.nw b hb).1;have:=hZ.A0;omega)).trans (hH.own b hb),hH.eld,hH.lt,(ho _ hbx).trans hH.box,(ConcN.cell_of_block (ho _ (ne _ e2)) _).trans hH.sx,(ConcN.cell_of_block (ho _ (ne _ e3)) _).trans hH.seg,(ConcN.cell_of_block (ho _ (ne _ e1)) _).trans hH.ids,(ConcN.cell_of_block (ho _ (ne _ e4)) _).trans hH.id,hcb,hal,a2T (ho _ hZ.WA) hH.live,(ConcN.cell_of_block (ho _ (ne _ e5)) _).trans hH.e0⟩,
  (ConcN.cell_of_block (ho _ (Ne.symm hZ.AC)) _).trans h.c0,(ConcN.cell_of_block (ho _ (Ne.symm hZ.AC)) _).trans h.c1⟩,fun hN=>⟨Nat.le_of_eq hs.symm,rfl,rfl,rfl,fun b _ _ hb _=>ho b hb,fun _=>hal,fun _=>hcb,fun k _=>ConcN.cell_of_block (ho _ (Ne.symm hZ.AC)) _,fun _ h=>h,fun _ h=>.inl h,fun b hb=>by rw[hs];exact(hN b hb).2,fun e he=>?_⟩⟩
 simp only[List.mem_toArray,List.mem_cons,List.not_mem_nil,or_false] at he;rcases he with rfl|rfl<;>exact⟨by rw[hs];exact hl,.inl ⟨rfl,rfl⟩⟩
end
theorem c55{Z:Pz}{i bx:Nat}{O:Nat->Prop}(hZ:a0f Z)(hbx:bx≠Z.Al)(w0:World)(mb sx sb ic c1 c2:Nat)(id:Int)(u:Value)(m:Nat):∃N,∀w,F3 Z i bx O w0 mb sx sb ic c1 c2 id u w->
 CallsC Tryz.prog false (RW Z i bx O) (D2 Z i bx O) 62 #[.pointer (some ⟨Z.Al,0,none⟩),.int .i64 m] N w fun _ w'=>F3 Z i bx O w0 mb sx sb ic c1 c2 id u w':=by
 co_apply Exists.intro
 intro w hF;co_apply callsC_of_wpC Tryz.func62 (by kernel_rfl) c4B
 simp only[Tryz.ntmps62,List.size_toArray,List.length_cons,List.length_nil,Nat.reduceAdd,Nat.reduceSub,Array.replicate_succ,Array.replicate_zero,List.push_toArray,List.append_toArray,List.nil_append,List.cons_append];co_stmt (O0 Z i bx O) F3.rely hF (co_quiet (O0 Z i bx O))
 rw[c2F];co_apply wpC_seq (O0 Z i bx O)
 co_reg (O0 Z i bx O)
 co_op F3.rely hF (co_quiet (O0 Z i bx O))
 co_op F3.rely hF (co_quiet (O0 Z i bx O))
 co_op F3.rely hF (co_quiet (O0 Z i bx O))
 co_op F3.rely hF (co_quiet (O0 Z i bx O))
 co_apply b90 rfl (by rfl) rfl Tryz.func112 (by kernel_rfl) (by kernel_rfl) (by rfl) b91 rfl rfl
 intro w₁ r;replace hF:=F3.rely hF r;obtain⟨v,hv⟩:=hF.hw.al;have hadd:=hF.add hZ hbx hv (IntKind.i64.wrap (v+m));refine⟨v,by simp[World.cell?,hv],by simp[World.frozen?,hv],hadd.2,?_⟩;have hG:=hadd.1;clear hadd hF hv;walk_nrm;co_op F3.rely hG (co_quiet (O0 Z i bx O))
 co_apply opsC_nil (O0 Z i bx O)
 co_then
 co_ctl (O0 Z i bx O)
 exact⟨rfl,_,resultsC_tmp (by rfl) _,hG⟩
end
section
open Go.RowKit Go.Conc Go.Conc.Lib Go.Mw Go.Mc
open Go.ConcN (WgLive Has AtR0)
set_option linter.unusedSectionVars false
variable[Go.ConcR.Payload]
def QW3(Z:Pz)(i bx:Nat)(O:Nat->Prop)(w0:World)(mb sx sb ic c1 c2:Nat)(id:Int)(u:Value)(ds:List Deferred):Exit->Act->World->Prop
 | .normal,a,w=>F3 Z i bx O w0 mb sx sb ic c1 c2 id u w/\a.defers=ds
 | _,_,_=>False
theorem c57{Z:Pz}{i bx:Nat}{O:Nat->Prop}(hZ:a0f Z)(hbx:bx≠Z.Al)(w0:World)(mb sx sb ic c1 c2:Nat)(id:Int)(ua:Option Addr)(um uc:Nat)(ds:List Deferred):∃N,∀T w,T.size=29->T[5]?=some (.pointer (some ⟨Z.Al,0,none⟩))->T[6]?=some (.slice ua um uc)->F3 Z i bx O w0 mb sx sb ic c1 c2 id (.slice ua um uc) w->
 a8N.wpC Tryz.prog false (RW Z i bx O) (D2 Z i bx O) 59 N (QW3 Z i bx O w0 mb sx sb ic c1 c2 id (.slice ua um uc) ds) ⟨T,ds⟩ w:=by
 obtain⟨nf,hadd⟩:=c55 hZ hbx w0 mb sx sb ic c1 c2 id (.slice ua um uc) um;refine⟨1+nf+3+1+1+1,fun T w hT h5 h6 hF=>?_⟩;rw[b7t];refine wpC_region (O0 Z i bx O) ?_;have hr:List.range (#[b7s,b4s,c4A]:Array Oper).size=[0,1,2]:=by rfl
 rw[hr];have q6:=J6 (ds:=ds) h6;refine opsC_cons (n:=1+nf+3+1) (o:=b7s) rfl (by rfl) fun w₁ r₁=>?_;have hF1:=F3.rely hF r₁;have e1:(execOp (Act.eval ⟨T,ds⟩) b7s).run Tryz.prog w₁=.ok (.value (.slice ua um uc)) w₁:=by
  show Result.ok (Next.value (Act.eval ⟨T,ds⟩ (.tmp 6))) w₁=_;rw[q6]
 rw[e1];refine⟨fun hN=>a0u hN (by rw[show listed Tryz.prog 59 ⟨T,ds⟩ b7s w₁=#[] from listed_nil (by rfl)];simp),?_⟩;have e0:Act.put ⟨T,ds⟩ b7s.dst (.slice ua um uc)=⟨T.setIfInBounds 26 (.slice ua um uc),ds⟩:=rfl;rw[e0];have t26:(T.setIfInBounds 26 (.slice ua um uc))[26]?=some (.slice ua um uc):=a0o (by omega);have t5:=C9 (u:=.slice ua um uc) (j:=26) h5 (by decide);have hs1:(T.setIfInBounds 26 (.slice ua um uc)).size=29:=by simp[hT]
 generalize T.setIfInBounds 26 (.slice ua um uc)=T1 at t26 t5 hs1⊢;have q26:=J6 (ds:=ds) t26;refine opsC_cons (n:=1+nf+3) (o:=b4s) rfl (by rfl) fun w₂ r₂=>?_;have hF2:=F3.rely hF1 r₂;have hu:Tryz.prog.underlying 151=some (.slice 160):=by kernel_rfl
 have e2:(execOp (Act.eval ⟨T1,ds⟩) b4s).run Tryz.prog w₂=.ok (.value (.int .i64 um)) w₂:=by
  generalize Act.eval ⟨T1,ds⟩ = ρ at q26;simp[go_sem,q26,hu]
 have e3:(execOp (Act.eval ⟨T1,ds⟩) b4s).events Tryz.prog w₂ #[]=#[]:=by
  generalize Act.eval ⟨T1,ds⟩ = ρ at q26;simp[go_sem,q26,hu]
 rw[e2];refine⟨fun hN=>a0u hN (by rw[show listed Tryz.prog 59 ⟨T1,ds⟩ b4s w₂=#[] from listed_nil e3];simp),?_⟩;have e4:Act.put ⟨T1,ds⟩ b4s.dst (.int .i64 um)=⟨T1.setIfInBounds 27 (.int .i64 um),ds⟩:=rfl;rw[e4];have t27:(T1.setIfInBounds 27 (.int .i64 um))[27]?=some (.int .i64 um):=a0o (by omega);replace t5:=C9 (u:=.int .i64 um) (j:=27) t5 (by decide);generalize T1.setIfInBounds 27 (.int .i64 um)=T2 at t27 t5⊢;refine opsC_call (n:=1) (O0 Z i bx O) (o:=c4A) rfl (by rfl) rfl (Post:=fun _ w'=>F3 Z i bx O w0 mb sx sb ic c1 c2 id (.slice ua um uc) w') ?_ fun v w' hF'=>?_
 ·have ea:(#[.tmp 5,.tmp 27]:Array Operand).map (Act.eval ⟨T2,ds⟩)=#[.pointer (some ⟨Z.Al,0,none⟩),.int .i64 um]:=by
   simp only[List.map_toArray,List.map_cons,List.map_nil];rw[J6 t5,J6 t27]
  rw[ea];exact hadd w₂ hF2
 ·exact opsC_nil (O0 Z i bx O) ⟨hF',rfl⟩
theorem c2G{Z:Pz}{i bx:Nat}{O:Nat->Prop}{w w₁:World}(hZ:a0f Z)(h:RW Z i bx O w w₁):ConcN.RW Z.ty Z.Wg Z.e0 Z.n 0 0 w w₁:=Mc.rw_lib hZ h
theorem b92{Z:Pz}{i bx:Nat}{O:Nat->Prop}(hZ:a0f Z)(hP:Z.P=Tryz.prog)(hty:Z.ty=149)(w0:World)(mb sx sb ic c1 c2:Nat)(id:Int)(u:Value)(T:Array Value)
 (hres:∀w,F3 Z i bx O w0 mb sx sb ic c1 c2 id u w->Z.Res i bx O w)(w:World)(hF:F3 Z i bx O w0 mb sx sb ic c1 c2 id u w):
 ∃Tr,Ww Z i bx (At7 Z i bx) Tr O (G ((baseD 59).at ⟨T,[dcall 60 #[.pointer (some ⟨Z.Wg,0,none⟩)]]⟩ []) [bot]) w:=by
 have hN:=hF.hw.nw;refine a1Q hN rfl (fun _=>stepG_end) ?_;refine a1Q hN rfl (fun _=>stepG_unwind_enter (ds:=[]) rfl (by rw[hP];exact wgLib.f_done) (by kernel_rfl) rfl) ?_;have hs:=b5g (P:=Tryz.prog) (Wg:=Z.Wg) (C:=Z.e0) (n:=Z.n) (Low:=0) (k:=1) (val:=Z.v0) wgLib (c:={(baseD 59).at ⟨T,[]⟩ [] with mode:=.returning}) (cs:=[bot]) rfl (quits_tail T) w ⟨by have:=hF.hw.live;rw[hty] at this;exact this,hF.hw.e0⟩;obtain⟨Tr,hT⟩:=Wk.ofGoes (γ:=Nat->Prop) (R:=fun _=>ConcN.RW 149 Z.Wg Z.e0 Z.n 0 0) (D:=fun x x' w w' es=>x'=x/\ConcR.DC0 w w' es) (Stop:=fun _ g w=>AtR0 Tryz.prog 149 Z.Wg Z.e0 Z.n 0 1 Z.v0 g w) O (fun _ _ h=>h) (fun _ _ _ h=>⟨rfl,h⟩) (fun _ _ h=>h) hs;refine⟨Tr,?_⟩;unfold Ww;rw[hP];refine b5k (fun x w=>x=O/\F3 Z i bx O w0 mb sx sb ic c1 c2 id u w) ?_ ?_ ?_ ?_ ⟨rfl,hF⟩ hT
 ·rintro x w w' ⟨rfl,h⟩ r;exact⟨rfl,h.rely r⟩
 ·rintro x w w' _ r;have:=c2G hZ r;rw[hty] at this;exact this
 ·rintro x x' w w' es ⟨rfl,h⟩ ⟨rfl,rfl,rfl⟩;exact⟨a0u h.hw.nw (by simp),rfl,h⟩
 ·rintro x g w ⟨rfl,h⟩ s;refine⟨?_,hres w h⟩;rw[hP,hty];exact s
theorem b7u{Z:Pz}{i bx:Nat}{O:Nat->Prop}(hZ:a0f Z)(hP:Z.P=Tryz.prog)(hty:Z.ty=149)(htC:(3:TypeId)≠Z.tCb)(hbx:bx≠Z.Al)(w0:World)(V2 x7 x8 x9 x10 x11 x12:Value)(mb sx sb ic c1 c2:Nat)(id:Int)(ua:Option Addr)(um uc:Nat)
 (hres:∀w,F3 Z i bx O w0 mb sx sb ic c1 c2 id (.slice ua um uc) w->Z.Res i bx O w)(w:World)(hF:HW Z i bx O w0 mb sx sb ic c1 c2 id w):
 ∃Tr,Ww Z i bx (At7 Z i bx) Tr O (G ((baseD 59).at ⟨#[.pointer (some ⟨Z.Wg,0,none⟩),.pointer (some ⟨bx,0,none⟩),V2,.pointer (some ⟨mb,0,none⟩),.pointer (some ⟨sx,0,none⟩),.pointer (some ⟨Z.Al,0,none⟩),.slice ua um uc,x7,x8,x9,x10,x11,x12,undef,undef,undef,undef,undef,undef,undef,undef,undef,undef,undef,undef,undef,undef,undef,undef],
  [dcall 60 #[.pointer (some ⟨Z.Wg,0,none⟩)]]⟩ [.code (a1I 2)]) [bot]) w:=by
 have hN:=hF.nw;obtain⟨N2,h2⟩:=c52 w0 hZ htC (.pointer (some ⟨Z.Wg,0,none⟩)) V2 (.pointer (some ⟨Z.Al,0,none⟩)) x7 x8 x9 x10 x11 x12 mb sx sb ic c1 c2 id [dcall 60 #[.pointer (some ⟨Z.Wg,0,none⟩)]] ua um uc (i:=i) (bx:=bx) (O:=O);obtain⟨N3,h3⟩:=c57 hZ hbx w0 mb sx sb ic c1 c2 id ua um uc [dcall 60 #[.pointer (some ⟨Z.Wg,0,none⟩)]] (i:=i) (O:=O);rw[b7r];refine a1Q hN rfl (fun _=>stepG_seq) ?_;have g2:=wpC_goes (b:=baseD 59) (k:=[.code a8N]) (cs:=[bot]) (m:=0) (Stop:=fun g w=>∃a',g=G ((baseD 59).at a' [.code a8N]) [bot]/\QW2 Z i bx O w0 (.pointer (some ⟨Z.Al,0,none⟩)) mb sx sb ic c1 c2 id (.slice ua um uc) [dcall 60 #[.pointer (some ⟨Z.Wg,0,none⟩)]] .normal a' w) (h2 w hF) rfl (by simp[baseD]) fun e a' w' q=>by
  cases e<;>first|exact q.elim|exact fun w₁ r=>⟨a',rfl,q.rely r⟩
 refine b51 hN (hP▸g2) ?_;rintro _ w₁ ⟨a',rfl,q1,q2,q3,q4,q5,q6,q7⟩ hN1;obtain⟨T1,ds1⟩:=a';dsimp only at q4 q5 q6 q7;subst q4;have g3:=wpC_goes (b:=baseD 59) (k:=[]) (cs:=[bot]) (m:=0) (Stop:=fun g w=>∃T,g=G ((baseD 59).at ⟨T,[dcall 60 #[.pointer (some ⟨Z.Wg,0,none⟩)]]⟩ []) [bot]/\F3 Z i bx O w0 mb sx sb ic c1 c2 id (.slice ua um uc) w) (h3 T1 w₁ q5 q6 q7 ⟨q1,q2,q3⟩) rfl (by simp[baseD]) fun e a' w' q=>by
  cases e<;>first|exact q.elim|skip
  obtain⟨q1,q2⟩:=q;obtain⟨T,ds⟩:=a';dsimp only at q2;subst q2;exact fun w₁ r=>⟨T,rfl,q1.rely r⟩
 refine b51 hN1 (hP▸g3) ?_;rintro _ w₂ ⟨T2,rfl,hF2⟩ _;exact b92 hZ hP hty w0 mb sx sb ic c1 c2 id _ T2 hres w₂ hF2
end
end Go.Proofs.YtgpbhjjajpbeeaaGreatDoor
namespace Go.Bi
section
open Zn (ext low kk Gr K0 Nx Full tp WPs Zf)
def b1s:Obj->Obj
 | .cells c e fr=>.cells c e (0,max c.size fr.2)
 | o=>o
open Classical in
noncomputable def ice(D:Nat->Prop)(w:World)(o:Obj):World:={w with heap:=(w.heap.mapIdx fun b x=>if D b then b1s x else x).push o}
section
variable{D:Nat->Prop}{w:World}{o:Obj}
theorem a0s:(ice D w o).heap.size=w.heap.size+1:=by simp[ice]
open Classical in
theorem a8e{b:Nat}(h:b<w.heap.size):(ice D w o).heap[b]?=(w.heap[b]?).map fun x=>if D b then b1s x else x:=by
 unfold ice;rw[Array.getElem?_push,if_neg (by simp;omega),Array.getElem?_mapIdx]
theorem a8f:(ice D w o).heap[w.heap.size]?=some o:=by
 unfold ice;rw[Array.getElem?_push,if_pos (by simp)]
theorem b9l{a:Addr}(h:a.block<w.heap.size):(ice D w o).cell? a=w.cell? a:=by
 unfold World.cell?;rw[a8e h]
 cases hb:w.heap[a.block]? with
 | none=>rfl
 | some x=>
  by_cases hd:D a.block
  ·simp only[Option.map_some,if_pos hd];cases x<;>rfl
  ·simp only[Option.map_some,if_neg hd]
theorem c2i{Z:Zn.Zone}{Sh:Nat->Prop}(h:WPs Z Sh w)(ho:Zn.ObjP (Zf Z Sh (w.heap.size+1)) o):WPs Z Sh (ice D w o):=by
 have mono:∀{x:Obj},Zn.ObjP (Zf Z Sh w.heap.size) x->Zn.ObjP (Zf Z Sh (w.heap.size+1)) x:=fun h=>h.mono (Zn.le_zf (Nat.le_succ _));refine⟨fun b x hb hs hx=>?_,fun b hb=>by rw[a0s];have:=h.sh b hb;omega,fun b hb=>⟨by rw[a0s];have:=(h.base b hb).1;omega,(h.base b hb).2⟩⟩;rw[a0s] at hb⊢;by_cases hlt:b<w.heap.size
 ·rw[a8e hlt] at hx;obtain⟨y,hy,rfl⟩:=Option.map_eq_some_iff.1 hx;have:=mono (h.obj b y hlt hs hy);split
  ·cases this<;>first|exact .cells _ _ _ (by assumption)|(constructor<;>assumption)
  ·exact this
 ·obtain rfl:b=w.heap.size:=by omega
  rw[a8f] at hx;injection hx with hx;exact hx▸ho
end
inductive Plain(D:Nat->Prop):Value->Prop
 | bool (b:Bool):Plain D (.bool b)
 | int (k:IntKind) (n:Int):Plain D (.int k n)
 | string (s:ByteArray):Plain D (.string s)
 | snil (n c:Nat):Plain D (.slice none n c)
 | slice (a:Addr) (n c:Nat) (h:D a.block):Plain D (.slice (some a) n c)
def a3i(D:Nat->Prop)(F:FuncId->Prop)(T:TypeId->Prop)(m bx:Nat)(K:Tmp->Value)(Kd:List Deferred)(Kk:CallKind):Sit:=
 {ren:=fun b=>if b=m then bx else b,D:=fun b=>D b\/b=m,F:=F,T:=T,W:=fun _=>False,K:=K,Kd:=Kd,Kk:=Kk}
section
variable{D:Nat->Prop}{F:FuncId->Prop}{T:TypeId->Prop}{bx:Nat}{K:Tmp->Value}{Kd:List Deferred}{Kk:CallKind}{w w2:World}
theorem Plain.vr{m:Nat}(hD:∀b,D b->b≠m){v:Value}(h:Plain D v):VR (a3i D F T m bx K Kd Kk) v v:=by
 cases h with
 | bool b=>exact .bool b
 | int k n=>exact .int k n
 | string s=>exact .string s
 | snil n c=>exact .snil n c
 | slice a n c h=>
  have e:rA (a3i D F T m bx K Kd Kk) a=a:=by
   unfold rA a3i;simp[hD _ h]
  have:=VR.slice (S:=a3i D F T m bx K Kd Kk) a n c (.inl h);rw[e] at this;exact this
theorem b9m(hD:∀b,D b->b<w.heap.size)(v:Value)(t:TypeId):Cur (a3i D F T w.heap.size bx K Kd Kk) (ice D w (.cells #[v] t (0,1))):=by
 rintro b (hb|rfl)
 ·rw[a0s];have:=hD b hb;omega
 ·rw[a0s];omega
open Classical in
theorem c2j{k:IntKind}{n:Int}{t:TypeId}(hD:∀b,D b->b<w.heap.size/\w2.heap[b]?=w.heap[b]?/\∃c e fr,w.heap[b]?=some (.cells c e fr)/\∀v∈c,Plain D v)(hbx:w2.heap[bx]?=some (.cells #[.int k n] t))(hb:w.heap.size<=bx):
 WR (a3i D F T w.heap.size bx K Kd Kk) (ice D w (.cells #[.int k n] t (0,1))) w2:=by
 have hne:∀b,D b->b≠w.heap.size:=fun b h=>by have:=(hD b h).1;omega
 refine⟨?_,?_,?_,?_⟩
 ·rintro a b ha hb' e;have key:∀a,(a3i D F T w.heap.size bx K Kd Kk).D a->(a=w.heap.size/\(a3i D F T w.heap.size bx K Kd Kk).ren a=bx)\/(a<w.heap.size/\(a3i D F T w.heap.size bx K Kd Kk).ren a=a):=by
   rintro a (ha|rfl)
   ·exact .inr ⟨(hD a ha).1,if_neg (hne a ha)⟩
   ·exact .inl ⟨rfl,if_pos rfl⟩
  rcases key a ha with⟨h1,h2⟩|⟨h1,h2⟩<;>rcases key b hb' with⟨h3,h4⟩|⟨h3,h4⟩<;>omega
 ·rintro b hb' (h|rfl)
  ·rw[a0s] at hb';have:=(hD b h).1;omega
  ·rw[a0s] at hb';omega
 ·rintro b (h|rfl) _
  ·obtain⟨h1,h2,c,e,fr,h3,h4⟩:=hD b h;refine⟨b1s (.cells c e fr),.cells c e fr,by rw[a8e h1,h3];simp[h],?_,?_⟩
   ·rw[show(a3i D F T w.heap.size bx K Kd Kk).ren b=b from if_neg (hne b h),h2];exact h3
   ·refine .cells c c e _ fr ⟨rfl,fun i h5 h6=>(h4 _ (Array.getElem_mem h5)).vr hne⟩ fun i h7 h8=>⟨Nat.zero_le _,Nat.lt_of_lt_of_le h8 (Nat.le_max_right _ _)⟩
  ·refine⟨_,_,a8f,?_,.cells _ _ t _ (0,0) (AR.one (.int k n)) fun i h7 h8=>by simp at h8⟩;rw[show(a3i D F T w.heap.size bx K Kd Kk).ren w.heap.size=bx from if_pos rfl];exact hbx
 ·rintro b c e fr (h|rfl) _ ho i hi
  ·obtain⟨h1,h2,c',e',fr',h3,h4⟩:=hD b h;rw[a8e h1,h3] at ho;simp only[Option.map_some,h,if_true,b1s,Option.some.injEq,Obj.cells.injEq] at ho;obtain⟨rfl,rfl,rfl⟩:=ho;exact⟨Nat.zero_le _,Nat.lt_of_lt_of_le hi (Nat.le_max_left _ _)⟩
  ·rw[a8f] at ho;simp only[Option.some.injEq,Obj.cells.injEq] at ho;obtain⟨rfl,rfl,rfl⟩:=ho;exact⟨Nat.zero_le _,by simpa using hi⟩
end
theorem VR.right{S:Sit}{Z:Zn.Zone}(hD:∀b,S.D b->Z.D (S.ren b))(hF:∀f,S.F f->Z.F f)(hT:∀t,S.T t->Z.T t){v v':Value}(h:VR S v v'):Zn.VP Z v':=by
 induction h with
 | bool b=>exact .bool b
 | int k n=>exact .int k n
 | string s=>exact .string s
 | pnil=>exact .pnil
 | ptr a h=>exact .ptr _ (hD _ h)
 | snil n c=>exact .snil n c
 | slice a n c h=>exact .slice _ n c (hD _ h)
 | func fn fn' f f' c c' h hf hf' hc hc' ihf ihc=>
  refine .func _ _ _ ?_ ?_ ?_
  ·cases h with
   | func f h=>exact .func f (hF f h)
  ·intro x hx;obtain⟨i,hi,rfl⟩:=Array.mem_iff_getElem.1 hx;exact ihf i (hf▸hi) hi
  ·intro x hx;obtain⟨i,hi,rfl⟩:=Array.mem_iff_getElem.1 hx
   exact ihc i (hc▸hi) hi
 | iface t v v' ht h ih=>exact .iface t v' (hT t ht) ih
 | nilIface=>exact .nilIface
 | agg c c' hc hc' ih=>
  refine .agg _ fun x hx=>?_;obtain⟨i,hi,rfl⟩:=Array.mem_iff_getElem.1 hx
  exact ih i (hc▸hi) hi
 | tuple c c' hc hc' ih=>
  refine .tuple _ fun x hx=>?_;obtain⟨i,hi,rfl⟩:=Array.mem_iff_getElem.1 hx;exact ih i (hc▸hi) hi
theorem a7O.right{S:Sit}{Z:Zn.Zone}(hD:∀b,S.D b->Z.D (S.ren b))(hF:∀f,S.F f->Z.F f)(hT:∀t,S.T t->Z.T t){o o':Obj}(h:a7O S o o'):Zn.ObjP Z o':=by
 cases h with
 | cells c c' e fr fr' h hf=>
  refine .cells _ _ _ fun x hx=>?_;obtain⟨i,hi,rfl⟩:=Array.mem_iff_getElem.1 hx
  exact(h.at_ i (h.size▸hi) hi).right hD hF hT
 | number a l h=>exact .number _ l (hD _ h)
theorem b6M{P:Program}{Z:Zn.Zone}{Sh:Nat->Prop}{X:Tmp->Prop}{b:Frame}{a:Act}{w:World}{c:Code}{Q0:Exit->Act->World->Prop}{A:Frame->World->Prop}(hP:∀Z',Zn.Le Z Z'->Zn.PQK Z' P)(hI:To.Iv Z Sh X a w)(hk:b.kind=.normal)(hc:Zn.CodeP Z c)(hu:Zn.CodeU X c)
 (h:∀τ p,c.wp P Q0 a (tp w τ p))(hQ:∀e a' w',Q0 e a' w'->e=.normal/\A (b.at a' K0) w')(hA:∀F w,A F w->∃a',F=b.at a' K0):Zn.Goe P Z Sh X A (b.at a [.code c]) [] w:=by
 refine Zn.lone_goe (fun F w' hF c hm=>?_) hP (hI.inv hk hc hu) fun τ p=>?_
 ·obtain⟨a',rfl⟩:=hA F w' hF;cases hm
 ·obtain⟨e,a',w',hq,har⟩:=h τ p b K0 [Zn.c0];obtain⟨rfl,hAA⟩:=hQ e a' w' hq;obtain⟨n,hr⟩:=har;exact⟨n,_,hr,_,_,rfl,hAA⟩
end
section
variable{S:Sit}{P:Program}
structure SB where
 F:FuncId->Bool
 T:TypeId->Bool
variable(B:SB)(P:Program)
def a96:Nat->Value->Bool
 | 0,_=>false
 | n+1,v=>match v with
  | .bool _|.int .. | .string _|.pointer none|.slice none _ _|.nilIface=>true
  | .iface t v=>B.T t&&a96 n v
  | .agg c|.tuple c=>c.toList.all (a96 n)
  | _=>false
def a4k(t:TypeId):Bool:=match P.info? t with
 | some i=>(match i.zero with|some z=>a96 B 6 z|none=>true)
 | none=>true
def b5l:Operand->Bool
 | .tmp _=>true
 | .const v=>a96 B 6 v
 | .global _=>false
 | .func f=>B.F f
def sliceB(t:TypeId):Option TypeId:=match P.underlying t with
 | some (.slice e)=>some e
 | _=>none
def b2d(t:TypeId):Bool:=match P.underlying t with
 | some (.int _)=>true
 | _=>false
def b3F(c:Call):Bool:=match c.callee with
 | .value (.func f)=>B.F f
 | .builtin .len=>(match c.argTypes[0]? with|some u=>(sliceB P u).isSome|none=>false)
 | .builtin .append=>(match c.argTypes[0]?,c.argTypes[1]? with
  | some u,some u'=>(match sliceB P u,sliceB P u' with|some e,some _=>a4k B P e|_,_=>false)
  | _,_=>false)
 | _=>false
def b8u(t:TypeId)(y:Operand):Bool:=b2d P t||(match P.underlying t,y with|some (.interface _),.const .nilIface=>true|_,_=>false)
def cvB(s d:TypeId):Bool:=(b2d P s&&b2d P d)||(match P.underlying s,P.underlying d with
 | some (.slice e),some .string=>(match P.underlying e with|some (.int .u8)=>true|_=>false)
 | _,_=>false)
def c6k:BinOp->Bool
 | .eql|.neq=>true
 | _=>false
def opB(o:Op):Bool:=match o with
 | .move _|.assign _|.pick .. | .load .. | .store .. | .nilCheck _|.extract .. | .indexAddr .. | .slice .. | .unOp ..=>true
 | .alloc t|.build t _=>a4k B P t
 | .buildSlice t _ _=>(match sliceB P t with|some e=>a4k B P e|none=>true)
 | .binOp op t _ y _=>c2c op||(c6k op&&b8u P t y)
 | .convert s d _=>cvB P s d
 | .makeInterface t _=>B.T t
 | .fieldAddr s _ f=>(match P.underlying s with|some (.struct fs)=>(match fs[f]? with|some g=>(match P.info? g.type with|some i=>i.size != 0|none=>true)|none=>true)|_=>true)
 | .call c=>b3F B P c
 | _=>false
def codeB:Code->Bool
 | .seq a b=>codeB a&&codeB b
 | .cond c a b=>b5l B c&&codeB a&&codeB b
 | .block _ b=>codeB b
 | .loop b=>codeB b
 | .region _ ops _=>ops.toList.all fun o=>opB B P o.op&&o.op.operands.toList.all (b5l B)
 | .skip|.label _|.exit _|.ret=>true
 | _=>false
variable{B P}
theorem a96.sound(hT:∀t,B.T t=true->S.T t):∀(n:Nat)(v:Value),a96 B n v=true->VR S v v:=by
 intro n
 induction n with
 | zero=>intro v h;cases h
 | succ n ih=>
  have all:∀c:Array Value,c.toList.all (a96 B n)=true->∀(i:Nat)(h1:i<c.size)(h2:i<c.size),VR S c[i] c[i]:=fun c hc i h1 h2=>ih _ (List.all_eq_true.1 hc _ (by simp));intro v h;unfold a96 at h;split at h<;>first|(constructor;done)|skip
  ·simp only[Bool.and_eq_true] at h;exact .iface _ _ _ (hT _ h.1) (ih _ h.2)
  ·exact .agg _ _ rfl (all _ h)
  ·exact .tuple _ _ rfl (all _ h)
  ·cases h
section
variable(hT:∀t,B.T t=true->S.T t)(hF:∀f,B.F f=true->S.F f)
include hT
theorem a4k.sound{t:TypeId}(h:a4k B P t=true):ZOK S P t:=by
 intro i z hi hz;unfold a4k at h;rw[hi] at h;dsimp only at h;rw[hz] at h;exact a96.sound hT _ _ h
omit hT in
theorem sliceB.sound{t e:TypeId}(h:sliceB P t=some e):P.underlying t=some (.slice e):=by
 unfold sliceB at h;split at h
 ·rename_i e' he;injection h with h;subst h;exact he
 ·cases h
omit hT in
theorem b2d.sound{t:TypeId}(h:b2d P t=true):∃k,P.underlying t=some (.int k):=by
 unfold b2d at h;split at h
 ·rename_i k hk;exact⟨k,hk⟩
 ·cases h
include hF
theorem b5l.sound{x:Operand}(h:b5l B x=true):b2z S x:=by
 cases x with
 | tmp t=>trivial
 | const v=>exact a96.sound hT _ _ h
 | global g=>cases h
 | func f=>exact hF f h
theorem b3F.sound{c:Call}(h:b3F B P c=true):b9i S P c:=by
 unfold b3F at h;unfold b9i;split at h<;>rename_i hc
 ·rw[hc];exact hF _ h
 ·rw[hc];dsimp only;split at h
  ·rename_i u hu;obtain⟨e,he⟩:=Option.isSome_iff_exists.1 h;exact⟨e,fun u' hu'=>by rw[hu] at hu';injection hu' with hu';subst hu';exact sliceB.sound he⟩
  ·cases h
 ·rw[hc];dsimp only;split at h
  ·rename_i u u' hu hu';split at h
   ·rename_i e e' he he';exact⟨e,e',fun x hx=>by rw[hu] at hx;injection hx with hx;subst hx;exact sliceB.sound he,a4k.sound hT h,fun x hx=>by rw[hu'] at hx;injection hx with hx;subst hx;exact sliceB.sound he'⟩
   ·cases h
  ·cases h
 ·cases h
omit hT hF in
theorem b8u.sound{t:TypeId}{y:Operand}(h:b8u P t y=true):b5Q P t y:=by
 unfold b8u at h;rw[Bool.or_eq_true] at h;rcases h with h|h
 ·obtain⟨k,hk⟩:=b2d.sound h;exact .int k hk y
 ·split at h
  ·rename_i ms hms;exact .nil ms hms
  ·cases h
omit hT hF in
theorem cvB.sound{s d:TypeId}(h:cvB P s d=true):c33 P s d:=by
 unfold cvB at h;rw[Bool.or_eq_true,Bool.and_eq_true] at h;rcases h with⟨h1,h2⟩|h
 ·obtain⟨k,hk⟩:=b2d.sound h1;obtain⟨k',hk'⟩:=b2d.sound h2;exact .int k k' hk hk'
 ·split at h
  ·rename_i e h1 h2;split at h
   ·rename_i h3;exact .bytes e h1 h3 h2
   ·cases h
  ·cases h
theorem opB.sound{o:Op}(h:opB B P o=true):OpB S P o:=by
 cases o<;>first|trivial|(cases h;done)|skip
 case alloc t=>exact a4k.sound hT h
 case build t xs=>exact a4k.sound hT h
 case buildSlice t n xs=>
  intro e he;have h':(match sliceB P t with|some e=>a4k B P e|none=>true)=true:=h;have:sliceB P t=some e:=by unfold sliceB;rw[he]
  rw[this] at h';exact a4k.sound hT h'
 case binOp op t x y u=>
  have h':(c2c op||(c6k op&&b8u P t y))=true:=h;rw[Bool.or_eq_true,Bool.and_eq_true] at h';rcases h' with h'|⟨h1,h2⟩
  ·exact .inl h'
  ·refine .inr ⟨?_,b8u.sound h2⟩;cases op<;>first|exact .inl rfl|exact .inr rfl|cases h1
 case convert s d x=>exact cvB.sound h
 case makeInterface t x=>exact hT _ h
 case call c=>exact b3F.sound hT hF h
 case fieldAddr s x f=>
  intro fs g i h1 h2 h3;have h':(match P.underlying s with|some (.struct fs)=>(match fs[f]? with|some g=>(match P.info? g.type with|some i=>i.size != 0|none=>true)|none=>true)|_=>true)=true:=h;rw[h1] at h';dsimp only at h';rw[h2] at h';dsimp only at h';rw[h3] at h';simpa using h'
theorem codeB.sound:∀{c:Code},codeB B P c=true->CodeB S P Zn.Full c:=by
 intro c
 induction c with
 | seq a b iha ihb=>intro h;simp only[codeB,Bool.and_eq_true] at h;exact⟨iha h.1,ihb h.2⟩
 | cond c a b iha ihb=>intro h;simp only[codeB,Bool.and_eq_true] at h;exact⟨⟨b5l.sound hT hF h.1.1,fun _ _=>trivial⟩,iha h.1.2,ihb h.2⟩
 | block _ b ih=>intro h;exact ih h
 | loop b ih=>intro h;exact ih h
 | region _ ops _=>
  intro h o ho;have:=List.all_eq_true.1 (show(ops.toList.all fun o=>opB B P o.op&&o.op.operands.toList.all (b5l B))=true from h) o (by simpa using ho);simp only[Bool.and_eq_true] at this
  exact⟨opB.sound hT hF this.1,fun x hx=>⟨b5l.sound hT hF (List.all_eq_true.1 this.2 x (by simpa using hx)),fun _ _=>trivial⟩,fun _ _=>trivial⟩
 | skip=>intro _;trivial
 | label _=>intro _;trivial
 | exit _=>intro _;trivial
 | ret=>intro _;trivial
 | _=>intro h;cases h
end
end
end Go.Bi
namespace Go.Zn
section
def b2e(f:Tmp->Bool):Operand->Bool
 | .tmp t=>f t
 | _=>true
def useB(f:Tmp->Bool):Code->Bool
 | .seq a b=>useB f a&&useB f b
 | .cond c a b=>b2e f c&&useB f a&&useB f b
 | .block _ b=>useB f b
 | .loop b=>useB f b
 | .scope b=>useB f b
 | .region _ ops _=>ops.toList.all fun o=>o.op.operands.toList.all (b2e f)
 | .rangeFunc _ _ _ _=>false
 | _=>true
def b2f(f:Tmp->Bool):Code->Bool
 | .seq a b=>b2f f a&&b2f f b
 | .cond _ a b=>b2f f a&&b2f f b
 | .block _ b=>b2f f b
 | .loop b=>b2f f b
 | .region _ ops _=>ops.toList.all fun o=>match o.dst with|some t=>f t|none=>true
 | _=>true
variable{f:Tmp->Bool}
theorem b2e.sound{x:Operand}(h:b2e f x=true):∀t,x=.tmp t->f t=true:=by
 rintro t rfl;exact h
theorem useB.sound:∀{c:Code},useB f c=true->CodeU (fun t=>f t=true) c:=by
 intro c
 induction c with
 | seq a b iha ihb=>intro h;simp only[useB,Bool.and_eq_true] at h;exact⟨iha h.1,ihb h.2⟩
 | cond _ a b iha ihb=>intro h;simp only[useB,Bool.and_eq_true] at h;exact⟨iha h.1.2,ihb h.2⟩
 | block _ b ih=>intro h;exact ih h
 | loop b ih=>intro h;exact ih h
 | scope b ih=>intro h;exact ih h
 | region _ ops _=>
  intro h o ho x hx;have h1:=List.all_eq_true.1 (show(ops.toList.all fun o=>o.op.operands.toList.all (b2e f))=true from h) o (by simpa using ho)
  exact(List.all_eq_true.1 h1 x (by simpa using hx) |> b2e.sound)
 | rangeFunc _ _ _ _=>intro h;cases h
 | _=>intro _;trivial
theorem codeB_x{S:Bi.Sit}{P:Program}:∀{c:Code},Bi.CodeB S P Full c->useB f c=true->b2f f c=true->Bi.CodeB S P (fun t=>f t=true) c:=by
 intro c
 induction c with
 | seq a b iha ihb=>intro h hu hd;simp only[useB,b2f,Bool.and_eq_true] at hu hd;exact⟨iha h.1 hu.1 hd.1,ihb h.2 hu.2 hd.2⟩
 | cond c a b iha ihb=>intro h hu hd;simp only[useB,b2f,Bool.and_eq_true] at hu hd;exact⟨⟨h.1.1,b2e.sound hu.1.1⟩,iha h.2.1 hu.1.2 hd.1,ihb h.2.2 hu.2 hd.2⟩
 | block _ b ih=>intro h hu hd;exact ih h hu hd
 | loop b ih=>intro h hu hd;exact ih h hu hd
 | region _ ops _=>
  intro h hu hd o ho;obtain⟨h1,h2,h3⟩:=h o ho;have hu1:=List.all_eq_true.1 (show(ops.toList.all fun o=>o.op.operands.toList.all (b2e f))=true from hu) o (by simpa using ho);have hd1:=List.all_eq_true.1 (show(ops.toList.all fun o=>match o.dst with|some t=>f t|none=>true)=true from hd) o (by simpa using ho);refine⟨h1,fun x hx=>⟨(h2 x hx).1,(List.all_eq_true.1 hu1 x (by simpa using hx) |> b2e.sound)⟩,fun t ht=>?_⟩;rw[ht] at hd1
  exact hd1
 | skip=>intro h _ _;trivial
 | label _=>intro h _ _;trivial
 | exit _=>intro h _ _;trivial
 | ret=>intro h _ _;trivial
 | _=>intro h;exact(h:False).elim
end
end Go.Zn
namespace Go.Proofs.YtgpbhjjajpbeeaaGreatDoor
section
open Go.RowKit Go.Bi
def sb:SB:={F:=fun f=>[61,71,126,127,128,166].contains f,T:=fun t=>t==37}
noncomputable def c3P(f:Nat):Bool:=match Tryz.prog.funcs[f]? with
 | some fn=>(match fn.body with|some c=>codeB sb Tryz.prog c|none=>false)&&fn.name != "runtime.NumGoroutine"
 | none=>false
theorem c6E:[61,71,126,127,128,166].all c3P=true:=by kernel_rfl
def wF(f:FuncId):Prop:=sb.F f=true
def wT(t:TypeId):Prop:=sb.T t=true
theorem b6w{f:FuncId}(h:wF f):∃fn c,Tryz.prog.funcs[f]?=some fn/\fn.body=some c/\codeB sb Tryz.prog c=true/\(fn.name== "runtime.NumGoroutine")=false:=by
 have hm:f∈[61,71,126,127,128,166]:=by simpa [wF,sb] using h
 have h1:=List.all_eq_true.1 c6E f hm;unfold c3P at h1;split at h1
 ·rename_i fn hfn;rw[Bool.and_eq_true] at h1;obtain⟨h2,h3⟩:=h1;split at h2
  ·rename_i c hc;exact⟨fn,c,hfn,hc,h2,by simpa using h3⟩
  ·cases h2
 ·cases h1
theorem pqb{S:Sit}(hF:S.F=wF)(high:∀b,S.D b->Tryz.prog.globals.size<=b)(high':∀b,S.D b->Tryz.prog.globals.size<=S.ren b)(inj:∀a b,S.D a->S.D b->S.ren a=S.ren b->a=b):PQB S Tryz.prog:=
 ⟨⟨⟨high,inj⟩,high'⟩,fun f hf=>by
  obtain⟨fn,c,h1,h2,_,h4⟩:=b6w (f:=f) (hF▸hf);exact⟨fn,h1,by rw[h2];rfl,h4⟩⟩
theorem c1N{S:Sit}(hF:S.F=wF)(hT:S.T=wT)(f:FuncId)(fn:Func)(c:Code)(hf:S.F f)(h1:Tryz.prog.funcs[f]?=some fn)(h2:fn.body=some c):CodeB S Tryz.prog Zn.Full c:=by
 obtain⟨fn',c',k1,k2,k3,_⟩:=b6w (f:=f) (hF▸hf);obtain rfl:=Option.some.inj (k1.symm.trans h1);obtain rfl:=Option.some.inj (k2.symm.trans h2);exact codeB.sound (fun t ht=>by rw[hT];exact ht) (fun f hf=>by rw[hF];exact hf) k3
end
section
open Go.RowKit Go.Conc Go.Conc.Lib Go.Mw Go.Mc Go.Bi
open Go.ConcN (WgLive Has AtR0)
open Pl
open Zn (ext low kk Gr K0 Nx Full tp WPs Zf)
set_option linter.unusedSectionVars false
variable[Go.ConcR.Payload]
def fW(t:Tmp):Bool:=[1,2,6,7,8,9,10,11,12].contains t
abbrev xW(t:Tmp):Prop:=fW t=true
theorem c58:Zn.CodeP zone workR1:=Zn.cOK.sound (by kernel_rfl)
theorem c6z:Zn.CodeU xW workR1:=Zn.useB.sound (by kernel_rfl)
theorem c4C{S:Sit}(hF:S.F=wF)(hT:S.T=wT):CodeB S Tryz.prog xW workR1:=
 Zn.codeB_x (codeB.sound (B:=sb) (fun t ht=>by rw[hT];exact ht) (fun f hf=>by rw[hF];exact hf) (by kernel_rfl)) (by kernel_rfl) (by kernel_rfl)
theorem b4t{S:Sit}{w w2:World}{base n size:Nat}{e:TypeId}{v v':Value}{xs:List Value}(hW:WR S w w2)(hv:VR S v v')(h:w.ownsRow base e size v n xs)(hfl:∀x∈xs,∀y,VR S x y->y=x):
 a2p w2 e size v' n xs/\∀g,v'.ownBlock=some g->∃a,S.D a/\base<=a/\S.ren a=g:=by
 rcases h.2 with⟨rfl,rfl⟩|⟨g,cap,cur,rfl,hb,hg,hnc,hcm,hcs,htake⟩
 ·cases hv;exact⟨⟨h.1,.inl ⟨rfl,rfl⟩⟩,fun g hg=>by cases hg⟩
 ·cases hv with
  | slice a n c hD=>
   obtain⟨o',ho',hR⟩:=hW.get hD hg
   cases hR with
   | cells c c' e fr fr' hc hf=>
    refine⟨⟨h.1,.inr ⟨S.ren g,cap,c',fr',rfl,ho',hnc,hcm,hc.size.symm.trans hcs,?_⟩⟩,fun k hk=>⟨g,hD,hb,by simpa [Value.ownBlock] using hk⟩⟩;rw[<-htake];apply List.ext_getElem?;intro i;rw[List.getElem?_take,List.getElem?_take];split
    ·rename_i hi;rcases hc.get? i with⟨h1,h2⟩|⟨x,y,h1,h2,h3⟩
     ·rw[Array.getElem?_toList,Array.getElem?_toList,h1,h2]
     ·rw[Array.getElem?_toList,Array.getElem?_toList,h1,h2,hfl x ?_ y h3];rw[<-htake];have:(cur.toList.take (n*size))[i]?=some x:=by rw[List.getElem?_take,if_pos hi,Array.getElem?_toList,h1]
      exact List.mem_of_getElem? this
    ·rfl
theorem a9M{S:Sit}(k:Int)(l:List (Nat×Rec)):∀x∈l.flatMap (O6 k),∀y,VR S x y->y=x:=by
 intro x hx y hy;obtain⟨p,_,hp⟩:=List.mem_flatMap.1 hx;simp only[O6,List.mem_cons,List.not_mem_nil,or_false] at hp;rcases hp with rfl|rfl|rfl|rfl|rfl|rfl|rfl<;>cases hy<;>rfl
theorem bytes_at{w w':World}(h:∀a,a.block<w.heap.size->w'.cell? a=w.cell? a){v:Value}{l:List UInt8}(hb:Bytes w v l):Bytes w' v l:=by
 obtain⟨a,c,rfl,h1,h2,h3⟩:=hb;refine⟨a,c,rfl,h1,h2,fun hx=>?_⟩;obtain⟨b,rfl,h4⟩:=h3 hx;exact⟨b,rfl,fun i x hi=>(h _ (lt_of_cell (h4 i x hi))).trans (h4 i x hi)⟩
def AW1(m:Nat)(l:List UInt8)(i:Nat)(F:Frame)(w':World):Prop:=∃a',F=(base 59).at a' K0/\a'.defers=[]/\a'.tmps.size=29/\a'.tmps[1]?=some (.pointer (some ⟨m - 1,0,none⟩))/\∃u,a'.tmps[6]?=some u/\w'.ownsRow m 160 7 u (J9 l).length ((J9 l).flatMap (O6 i))
theorem b93{i n fc fb rb:Nat}{w:World}{Sh DB:Nat->Prop}{v:Value}{l:List UInt8}(hW:WPs zone Sh w)(hfbS:¬Sh fb)(hfb:w.cell? ⟨fb,0,none⟩=some (.slice (some ⟨rb,0,none⟩) n fc))(hn:i<n/\n<=fc/\n<2147483648)(hc:w.cell? ⟨rb,i,none⟩=some v)(hv:Bytes w v l)(hl:l.length<=1099511627776):
 Zn.Goe Tryz.prog zone Sh xW (AW1 (w.heap.size+1) l i) ((base 59).at ⟨vW undef undef undef undef w.heap.size fb,[]⟩ [.code workR1]) [] (ice DB w (.cells #[.int .i64 i] 3 (0,1))):=by
 have hwl:WPs zone Sh (ice DB w (.cells #[.int .i64 i] 3 (0,1))):=c2i hW (.cells _ _ _ (Zn.AP.one (.int .i64 i)));have hmS:¬Sh w.heap.size:=fun h=>by have:=hW.sh _ h;omega
 refine b6M (Q0:=fun e a' w'=>e=.normal/\a'.defers=[]/\a'.tmps.size=29/\a'.tmps[1]?=some (.pointer (some ⟨w.heap.size+1 - 1,0,none⟩))/\∃u,a'.tmps[6]?=some u/\w'.ownsRow (w.heap.size+1) 160 7 u (J9 l).length ((J9 l).flatMap (O6 i))) pqk ⟨?_,fun d hd=>(by cases hd),hwl⟩ rfl c58 c6z (fun τ p=>?_) ?_ ?_
 ·intro t ht;have hm:t=1\/t=2\/t=6\/t=7\/t=8\/t=9\/t=10\/t=11\/t=12:=by
   have h':fW t=true:=ht;simpa [fW] using h'
  rcases hm with rfl|rfl|rfl|rfl|rfl|rfl|rfl|rfl|rfl
  ·exact .ptr _ ⟨by rw[a0s];exact Nat.lt_succ_self _,hmS⟩
  ·exact .ptr _ ⟨by rw[a0s];exact Nat.lt_succ_of_lt (lt_of_cell hfb),hfbS⟩
  all_goals exact .tuple _ Zn.AP.nil
 ·have hold:∀a:Addr,a.block<w.heap.size->(tp (ice DB w (.cells #[.int .i64 i] 3 (0,1))) τ p).cell? a=w.cell? a:=fun a h=>b9l (D:=DB) h;have hb:(tp (ice DB w (.cells #[.int .i64 i] 3 (0,1))) τ p).cell? ⟨w.heap.size,0,none⟩=some (.int .i64 i):=by
   show(ice DB w (.cells #[.int .i64 i] 3 (0,1))).cell? _=_;simp[World.cell?,a8f]
  refine Code.wp_mono ?_ (c5Y undef undef undef undef w.heap.size fb rb i n fc v l _ hb ((hold _ (lt_of_cell hfb)).trans hfb) hn.1 hn.2.1 hn.2.2 ((hold _ (lt_of_cell hc)).trans hc) (bytes_at hold hv) hl);intro e a' w' q;cases e<;>first|exact q.elim|skip
  obtain⟨q1,q1',q1'',u,q2,q3,-⟩:=q;refine⟨rfl,q1,q1',q1'',u,q2,?_⟩;have e1:(tp (ice DB w (.cells #[.int .i64 i] 3 (0,1))) τ p).heap.size=w.heap.size+1:=a0s;rw[e1] at q3;exact q3
 ·rintro e a' w' ⟨rfl,h1,h2⟩;exact⟨rfl,a',rfl,h1,h2⟩
 ·rintro F w' ⟨a',rfl,_⟩;exact⟨a',rfl⟩
theorem c6a(T:Array Value)(hT:T.size=29):T=#[T.getD 0 undef,T.getD 1 undef,T.getD 2 undef,T.getD 3 undef,T.getD 4 undef,T.getD 5 undef,T.getD 6 undef,T.getD 7 undef,T.getD 8 undef,T.getD 9 undef,T.getD 10 undef,T.getD 11 undef,T.getD 12 undef,T.getD 13 undef,T.getD 14 undef,T.getD 15 undef,T.getD 16 undef,T.getD 17 undef,T.getD 18 undef,T.getD 19 undef,T.getD 20 undef,T.getD 21 undef,T.getD 22 undef,T.getD 23 undef,T.getD 24 undef,T.getD 25 undef,T.getD 26 undef,T.getD 27 undef,T.getD 28 undef]:=by
 apply Array.ext
 ·exact hT
 intro j h1 h2;have hg:∀k(h:k<T.size),T[k]=T.getD k undef:=fun k h=>by simp[Array.getD,h]
 rw[hg];have h3:j<29:=by omega
 match j,h3 with
 | 0,_=>rfl
 | 1,_=>rfl
 | 2,_=>rfl
 | 3,_=>rfl
 | 4,_=>rfl
 | 5,_=>rfl
 | 6,_=>rfl
 | 7,_=>rfl
 | 8,_=>rfl
 | 9,_=>rfl
 | 10,_=>rfl
 | 11,_=>rfl
 | 12,_=>rfl
 | 13,_=>rfl
 | 14,_=>rfl
 | 15,_=>rfl
 | 16,_=>rfl
 | 17,_=>rfl
 | 18,_=>rfl
 | 19,_=>rfl
 | 20,_=>rfl
 | 21,_=>rfl
 | 22,_=>rfl
 | 23,_=>rfl
 | 24,_=>rfl
 | 25,_=>rfl
 | 26,_=>rfl
 | 27,_=>rfl
 | 28,_=>rfl
 | k+29,h=>exact absurd h (by omega)
theorem c2H{f:FuncId}(h:wF f):zone.F f:=by
 have hm:f∈[61,71,126,127,128,166]:=by simpa [wF,sb] using h
 have:[61,71,126,127,128,166].all (fun f=>fs.testBit f)=true:=by decide +kernel
 exact List.all_eq_true.1 this f hm
theorem c2I{Z:Pz}{i bx n fc fb rb:Nat}{w w2:World}{Sh DB:Nat->Prop}{v:Value}{l:List UInt8}{Stop:(Nat->Prop)->Goroutine->World->Prop}(hZ:a0f Z)(hP:Z.P=Tryz.prog)(hW:WPs zone Sh w)(V0 V3 V4 V5:Value)(ds:List Deferred)
 (hDB:∀b,DB b->Tryz.prog.globals.size<=b/\b<w.heap.size/\Z.Eld b/\w2.heap[b]?=w.heap[b]?/\∃c e fr,w.heap[b]?=some (.cells c e fr)/\∀v∈c,Plain DB v)(hfbD:DB fb)(hfbS:¬Sh fb)
 (hfb:w.cell? ⟨fb,0,none⟩=some (.slice (some ⟨rb,0,none⟩) n fc))(hn:i<n/\n<=fc/\n<2147483648)(hc:w.cell? ⟨rb,i,none⟩=some v)(hv:Bytes w v l)(hl:l.length<=1099511627776)
 (hbx:w2.heap[bx]?=some (.cells #[.int .i64 i] 3))(hbL:Z.L0<=bx/\w.heap.size<=bx)(hL:Z.L0<=w2.heap.size)(hLw:w.heap.size<=Z.L0)(gl:Tryz.prog.globals.size<=w.heap.size)
 (hk:∀(O:Nat->Prop)(u V2 x7 x8 x9 x10 x11 x12:Value)(w3:World),Nw Z O w3->¬O bx->Kp Z bx w2 w3->a2p w3 160 7 u (J9 l).length ((J9 l).flatMap (O6 i))->(∀g,u.ownBlock=some g->O g)->
   (∀b,O b->∃o,w3.heap[b]?=some o/\Zn.ObjP {zone with D:=fun b=>DB b\/b=bx\/O b} o)->
   ∃T,Ww Z i bx Stop T O (G ((baseD 59).at ⟨#[V0,.pointer (some ⟨bx,0,none⟩),V2,V3,V4,V5,u,x7,x8,x9,x10,x11,x12,undef,undef,undef,undef,undef,undef,undef,undef,undef,undef,undef,undef,undef,undef,undef,undef],ds⟩ [.code (a1I 2)]) [bot]) w3):
 ∃T,Ww Z i bx Stop T (fun _=>False) (G ((baseD 59).at ⟨#[V0,.pointer (some ⟨bx,0,none⟩),.pointer (some ⟨fb,0,none⟩),V3,V4,V5,undef,undef,undef,undef,undef,undef,undef,undef,undef,undef,undef,undef,undef,undef,undef,undef,undef,undef,undef,undef,undef,undef,undef],ds⟩ [.code workR1,.code (a1I 2)]) [bot]) w2:=by
 have hT2s:(#[V0,.pointer (some ⟨bx,0,none⟩),.pointer (some ⟨fb,0,none⟩),V3,V4,V5,undef,undef,undef,undef,undef,undef,undef,undef,undef,undef,undef,undef,undef,undef,undef,undef,undef,undef,undef,undef,undef,undef,undef]:Array Value).size=29:=rfl;obtain⟨T2,hT2⟩:∃T2:Array Value,T2=#[V0,.pointer (some ⟨bx,0,none⟩),.pointer (some ⟨fb,0,none⟩),V3,V4,V5,undef,undef,undef,undef,undef,undef,undef,undef,undef,undef,undef,undef,undef,undef,undef,undef,undef,undef,undef,undef,undef,undef,undef]:=⟨_,rfl⟩;rw[<-hT2] at hT2s⊢;have hgoe:=b93 (DB:=DB) hW hfbS hfb hn hc hv hl;have hDlt:∀b,DB b->b<w.heap.size:=fun b h=>(hDB b h).2.1;have hne:∀b,DB b->b≠w.heap.size:=fun b h=>by have:=hDlt b h;omega
 have hbxl:bx<w2.heap.size:=Bi.lt_of_some hbx;have hwr:WR (a3i DB wF wT w.heap.size bx (fun t=>T2.getD t undef) ds .deferred) (ice DB w (.cells #[.int .i64 i] 3 (0,1))) w2:=
  c2j (fun b h=>⟨(hDB b h).2.1,(hDB b h).2.2.2⟩) hbx hbL.2
 have ren1:∀b,DB b->(a3i DB wF wT w.heap.size bx (fun t=>T2.getD t undef) ds .deferred).ren b=b:=fun b h=>if_neg (hne b h);have ren2:(a3i DB wF wT w.heap.size bx (fun t=>T2.getD t undef) ds .deferred).ren w.heap.size=bx:=if_pos rfl;have hfr:FrR (a3i DB wF wT w.heap.size bx (fun t=>T2.getD t undef) ds .deferred) Tryz.prog xW [] ((base 59).at ⟨vW undef undef undef undef w.heap.size fb,[]⟩ [.code workR1]) ((baseD 59).at ⟨T2,ds⟩ [.code workR1]):=by
  refine⟨rfl,hT2s,?_,rfl,?_,rfl,.inl rfl,rfl,rfl,⟨by simp[base,Frame.at],by simp[baseD,Frame.at]⟩,fun h=>absurd rfl h,rfl,fun t _=>rfl,fun _=>⟨rfl,rfl⟩⟩
  ·intro t ht;have hm:t=1\/t=2\/t=6\/t=7\/t=8\/t=9\/t=10\/t=11\/t=12:=by
    have h':fW t=true:=ht;simpa [fW] using h'
   subst hT2;rcases hm with rfl|rfl|rfl|rfl|rfl|rfl|rfl|rfl|rfl
   ·have:=VR.ptr (S:=a3i DB wF wT w.heap.size bx (fun t=>(#[V0,.pointer (some ⟨bx,0,none⟩),.pointer (some ⟨fb,0,none⟩),V3,V4,V5,undef,undef,undef,undef,undef,undef,undef,undef,undef,undef,undef,undef,undef,undef,undef,undef,undef,undef,undef,undef,undef,undef,undef]:Array Value).getD t undef) ds .deferred) ⟨w.heap.size,0,none⟩ (.inr rfl);unfold rA at this;rw[ren2] at this;exact this
   ·have:=VR.ptr (S:=a3i DB wF wT w.heap.size bx (fun t=>(#[V0,.pointer (some ⟨bx,0,none⟩),.pointer (some ⟨fb,0,none⟩),V3,V4,V5,undef,undef,undef,undef,undef,undef,undef,undef,undef,undef,undef,undef,undef,undef,undef,undef,undef,undef,undef,undef,undef,undef,undef]:Array Value).getD t undef) ds .deferred) ⟨fb,0,none⟩ (.inl hfbD);unfold rA at this;rw[ren1 fb hfbD] at this;exact this
   all_goals exact a2O
  ·intro x hx;obtain rfl:x=.code workR1:=by simpa [Frame.at] using hx
   exact .code _ (c4C rfl rfl)
 have hpq:PQB (a3i DB wF wT w.heap.size bx (fun t=>T2.getD t undef) ds .deferred) Tryz.prog:=by
  refine pqb rfl ?_ ?_ hwr.inj
  ·rintro b (h|rfl)
   ·exact(hDB b h).1
   ·exact gl
  ·rintro b (h|rfl)
   ·rw[ren1 b h];exact(hDB b h).1
   ·rw[ren2];omega
 have hwk:=c4a (Rd1 Z bx) (a3i DB wF wT w.heap.size bx (fun t=>T2.getD t undef) ds .deferred) pqk (fun F w τ p h=>h) [.code (a1I 2)] [bot] hgoe _ ((baseD 59).at ⟨T2,ds⟩ [.code workR1]) [] w2 (fun _=>False) (.refl _) (fun b h=>.inl h)
  (fun f fn c=>c1N rfl rfl f fn c) hpq (b9m hDlt _ _) hfr .nil hwr (fun b=>⟨fun h=>h.elim,fun⟨a,_,h,_⟩=>h.elim⟩) (by
   rintro a (h|rfl)
   ·rw[ren1 a h];exact .inl (.inl (hDB a h).2.2.1)
   ·rw[ren2];exact .inl (.inr rfl)) (by rw[a0s];omega) (by omega)
 have hbA:bx≠Z.Al:=by have:=hZ.A0;omega
 have hbC:bx≠Z.Cb:=by have:=hZ.C0;omega
 refine b3D hZ (fun _ h=>h.elim) hL ⟨fun h=>h,hbxl,hbA,hbC⟩ (hP▸hwk) ?_;rintro O g w3 ⟨S,fr,fr2,wl,hle,hdw,rfl,hF,hWR,hcur,hImg,hro,⟨a',hFa,hda,h29,hu1,u,hu,hown⟩⟩ hN hOb hKp;obtain⟨f1,f2,f3,f4,f5,f6,f7⟩:=fr;simp only[ext,Frame.at,Frame.mk.injEq] at hFa;obtain⟨rfl,rfl,e3,rfl,rfl,rfl,rfl⟩:=hFa;obtain rfl:=To.append_self e3;obtain⟨g1,g2,g3,g4,g5,g6,g7⟩:=fr2;obtain⟨c1,c2,c3,c4,c5,c6,c7,c8,c9,c10,c11,c12,c13⟩:=hF;dsimp only at c1 c2 c3 c4 c6 c9;obtain⟨k1,k2⟩:=c13;have k3:=(k2 rfl).2;replace k2:=(k2 rfl).1;dsimp only at k1 k2 k3;subst c1 c4 c6 c9;rw[hle.k.2.1] at k2;rw[hle.k.2.2] at k3;subst k2 k3;rw[hle.k.1] at k1;have hsz:g2.size=29:=by omega
 have kept:∀t,fW t=false->g2.getD t undef=T2.getD t undef:=fun t ht=>k1 t fun h=>by
  have h':fW t=true:=h;rw[ht] at h';cases h'
 have q1:g2.getD 1 undef=.pointer (some ⟨bx,0,none⟩):=by
  have h1:=c3 1 (show fW 1=true by decide);rw[Array.getD_eq_getD_getElem?,hu1] at h1;have h2:∀y,VR S (.pointer (some ⟨w.heap.size+1 - 1,0,none⟩)) y->y=.pointer (some ⟨bx,0,none⟩):=by
   intro y hy
   cases hy with
   | ptr a ha=>
    unfold rA;rw[show w.heap.size+1 - 1=w.heap.size from rfl,hle.ren _ (.inr rfl),ren2]
  exact h2 _ h1
 have v6:VR S u (g2.getD 6 undef):=by
  have:=c3 6 (show fW 6=true by decide);rw[Array.getD_eq_getD_getElem?,hu] at this;exact this
 obtain⟨hrow,hrb⟩:=b4t hWR v6 hown (a9M i _);have hS0:∀a,S.D a->w.heap.size+1<=a->S.W a:=fun a h1 h2=>by
  rcases hdw a h1 with(h|h)|h
  ·have:=hDlt a h;omega
  ·omega
  ·exact h
 have:=hk O (g2.getD 6 undef) (g2.getD 2 undef) (g2.getD 7 undef) (g2.getD 8 undef) (g2.getD 9 undef) (g2.getD 10 undef) (g2.getD 11 undef) (g2.getD 12 undef) w3 hN hOb hKp hrow (fun g hg=>by
  obtain⟨a,h1,h2,rfl⟩:=hrb g hg;exact(hImg _).2 ⟨a,h1,hS0 a h1 h2,rfl⟩) (fun b hb=>by
  obtain⟨a,h1,h2,rfl⟩:=(hImg b).1 hb;obtain⟨o,o',h3,h4,h5⟩:=hWR.obj a h1 (hcur a h1);refine⟨o',h4,h5.right (fun b h=>?_) (fun f h=>?_) fun t _=>rfl⟩
  ·rcases hdw b h with(h|h)|h
   ·rw[hle.ren b (.inl h),ren1 b h];exact .inl h
   ·rw[hle.ren b (.inr h),h,ren2];exact .inr (.inl rfl)
   ·exact .inr (.inr ((hImg _).2 ⟨b,‹_›,h,rfl⟩))
  ·rw[hle.F] at h;exact c2H h)
 have e29:=c6a g2 hsz;rw[show g2.getD 0 undef=V0 by rw[kept 0 (by decide),hT2];rfl] at e29;rw[show g2.getD 3 undef=V3 by rw[kept 3 (by decide),hT2];rfl] at e29;rw[show g2.getD 4 undef=V4 by rw[kept 4 (by decide),hT2];rfl] at e29;rw[show g2.getD 5 undef=V5 by rw[kept 5 (by decide),hT2];rfl] at e29;rw[show g2.getD 13 undef=undef by rw[kept 13 (by decide),hT2];rfl] at e29;rw[show g2.getD 14 undef=undef by rw[kept 14 (by decide),hT2];rfl] at e29;rw[show g2.getD 15 undef=undef by rw[kept 15 (by decide),hT2];rfl] at e29;rw[show g2.getD 16 undef=undef by rw[kept 16 (by decide),hT2];rfl] at e29;rw[show g2.getD 17 undef=undef by rw[kept 17 (by decide),hT2];rfl] at e29;rw[show g2.getD 18 undef=undef by rw[kept 18 (by decide),hT2];rfl] at e29;rw[show g2.getD 19 undef=undef by rw[kept 19 (by decide),hT2];rfl] at e29;rw[show g2.getD 20 undef=undef by rw[kept 20 (by decide),hT2];rfl] at e29;rw[show g2.getD 21 undef=undef by rw[kept 21 (by decide),hT2];rfl] at e29;rw[show g2.getD 22 undef=undef by rw[kept 22 (by decide),hT2];rfl] at e29;rw[show g2.getD 23 undef=undef by rw[kept 23 (by decide),hT2];rfl] at e29;rw[show g2.getD 24 undef=undef by rw[kept 24 (by decide),hT2];rfl] at e29;rw[show g2.getD 25 undef=undef by rw[kept 25 (by decide),hT2];rfl] at e29;rw[show g2.getD 26 undef=undef by rw[kept 26 (by decide),hT2];rfl] at e29;rw[show g2.getD 27 undef=undef by rw[kept 27 (by decide),hT2];rfl] at e29;rw[show g2.getD 28 undef=undef by rw[kept 28 (by decide),hT2];rfl] at e29;rw[q1] at e29;rw[<-e29] at this;exact this
end
end Go.Proofs.YtgpbhjjajpbeeaaGreatDoor
