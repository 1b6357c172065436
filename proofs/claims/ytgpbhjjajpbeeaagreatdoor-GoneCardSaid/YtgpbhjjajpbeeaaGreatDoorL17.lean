/- A part of what the last file proves. -/
import Derived.Test.YtgpbhjjajpbeeaaGreatDoorL16
import Derived.Conc.CompanyMem
import Derived.Conc.DeferLaws
import GoSem.Dispatch
set_option linter.all false
set_option maxRecDepth 100000
set_option maxHeartbeats 4000000
namespace Go.Proofs.YtgpbhjjajpbeeaaGreatDoor
section
open Go.RowKit Go.Conc Go.Conc.Lib Go.ConcR.Gen Go.ConcN.Gen Go.Mw
open Go.ConcN (WgLive)
open Go.Mc (Pz a0f R0 D0 W0 Ev0 AtKdS AtGoS AtKd AtW1 Spawns Fin a0D a0t Works)
set_option linter.unusedSectionVars false
variable[Go.ConcR.Payload]{Z:Pz}{w00:World}{T0:Array Value}{V4 V6 V11:Value}{K:List Item}{cs:List Frame}
def kb(k:Nat):Bool:=![12,13,14,70,71,72,73,74,75,76,77,78].contains k
theorem a3W{T T0:Array Value}(h:∀k,kb k=true->T[k]?=T0[k]?)(j:Nat)(hj:kb j=false)(v:Value):∀k,kb k=true->(T.setIfInBounds j v)[k]?=T0[k]?:=fun k hk=>by
 have hne:j≠k:=fun e=>by subst e;rw[hj] at hk;cases hk
 rw[Array.getElem?_setIfInBounds_ne hne];exact h k hk
structure Lay(Z:Pz)(T0:Array Value)(V4 V6 V11:Value)(T:Array Value)(j:Nat):Prop where
 size:T.size=118
 t4:T[4]?=some V4
 t6:T[6]?=some V6
 t11:T[11]?=some V11
 t12:T[12]?=some (.pointer (some ⟨Z.Al,0,none⟩))
 t13:T[13]?=some (.pointer (some ⟨Z.Wg,0,none⟩))
 t71:T[71]?=some (.int .i64 Z.n)
 t72:T[72]?=some (.int .i64 j)
 keep:∀k,kb k=true->T[k]?=T0[k]?
noncomputable def c4I(T:Array Value)(K:List Item):Frame:=(base 14).at ⟨T,[]⟩ (.inRegion a8V [0]::.code (H8 10)::K)
noncomputable def joined(T:Array Value)(K:List Item):Frame:=(base 14).at (Act.put ⟨T,[]⟩ (some 78) (.tuple #[])) (.inRegion a8V []::.code (H8 10)::K)
def a5J(Z:Pz)(w00:World)(T0:Array Value)(V4 V6 V11:Value)(K:List Item)(cs:List Frame)(g:Goroutine)(w:World):Prop:=∃T,Lay Z T0 V4 V6 V11 T Z.n/\b3C Z link w00 (c4I T K) cs g w
def b53(Z:Pz)(T0:Array Value)(V4 V6 V11:Value)(K:List Item)(cs:List Frame)(g:Goroutine)(w:World):Prop:=∃T,Lay Z T0 V4 V6 V11 T Z.n/\b3B Tryz.prog (G (joined T K) cs) g w
theorem b7H(g:Goroutine)(w:World)(h:a5J Z w00 T0 V4 V6 V11 K cs g w):g.status=.running:=by
 obtain⟨T,_,T',rfl,_⟩:=h;rfl
theorem b7I(hZ:a0f Z)(hP:Z.P=Tryz.prog)(hty:Z.ty=149){x:Option Nat}(g:Goroutine)(w:World)(h:a5J Z w00 T0 V4 V6 V11 K cs g w):∃T,W0 Z (AtW1 Z (b53 Z T0 V4 V6 V11 K cs) (a5J Z w00 T0 V4 V6 V11 K cs)) T x g w:=by
 obtain⟨T,hT,h⟩:=h;refine Z4 (fun y g w=>b0Z (fun g w hc=>⟨T,hT,?_⟩) fun g w ha=>⟨T,hT,ha⟩) (b5h (L:=link) (b₀:=base 14) (a₀:=⟨T,[]⟩) (ops₀:=a8V) (i₀:=0) (rest₀:=[]) (k₀:=.code (H8 10)::K) hZ (hP▸wgLib) hty g w h);rw[hP] at hc;exact hc
def b1I(Z:Pz)(V4 V6 V11:Value)(b:Nat):Array Value:=#[.pointer (some ⟨Z.Wg,0,none⟩),.pointer (some ⟨b,0,none⟩),V6,V4,V11,.pointer (some ⟨Z.Al,0,none⟩)]
def b54(Z:Pz)(V4 V6 V11:Value)(b:Nat):Deferred:={target:=.fn (.func 59) (b1I Z V4 V6 V11 b),args:=#[]}
variable{ρ:Operand->Value}{n j:Nat}
theorem Lay.set{T:Array Value}(h:Lay Z T0 V4 V6 V11 T j)(k:Nat)(v:Value)(hk:([4,6,11,12,13,71,72].contains k||kb k)=false):Lay Z T0 V4 V6 V11 (T.setIfInBounds k v) j:=by
 rw[Bool.or_eq_false_iff] at hk;obtain⟨hk,hkb⟩:=hk;simp at hk;obtain⟨h1,h2,h3,h4,h5,h6,h7⟩:=hk;refine⟨by simp[h.size],C9 h.t4 h1,C9 h.t6 h2,C9 h.t11 h3,C9 h.t12 h4,C9 h.t13 h5,C9 h.t71 h6,C9 h.t72 h7,fun i hi=>?_⟩;have hne:k≠i:=fun e=>by subst e;rw[hkb] at hi;cases hi
 rw[Array.getElem?_setIfInBounds_ne hne];exact h.keep i hi
theorem Lay.next{T:Array Value}(h:Lay Z T0 V4 V6 V11 T j)(j':Nat):Lay Z T0 V4 V6 V11 (T.setIfInBounds 72 (.int .i64 j')) j':=by
 refine⟨by simp[h.size],C9 h.t4 (by decide),C9 h.t6 (by decide),C9 h.t11 (by decide),C9 h.t12 (by decide),C9 h.t13 (by decide),C9 h.t71 (by decide),a0o (by rw[h.size];decide),fun i hi=>?_⟩;have hne:72≠i:=fun e=>by subst e;revert hi;decide
 rw[Array.getElem?_setIfInBounds_ne hne];exact h.keep i hi
section
variable{a b:Operand}(u v:Int)(ha:ρ a=.int .i64 u)(hb:ρ b=.int .i64 v)
include ha hb
theorem c2Q(w:World)(d:Option Nat)(ps:String)(af:Array Edge)(t:TypeId):(execOp ρ {dst:=d,op:=.binOp .lss 3 a b 3,type:=t,pos:=ps,after:=af,guard:=none}).run Tryz.prog w=.ok (.value (.bool (decide (u<v)))) w:=by
 simp[go_sem,ha,hb]
end
theorem c4J{a b:Operand}{u v:Int}(ha:ρ a=.int .i64 u)(hb:ρ b=.int .i64 v)(w:World)(d:Option Nat)(ps:String)(af:Array Edge)(t:TypeId):(execOp ρ {dst:=d,op:=.binOp .lss 3 a b 3,type:=t,pos:=ps,after:=af,guard:=none}).events Tryz.prog w #[]=#[]:=by
 simp[go_sem,ha,hb]
theorem c2R{T:Array Value}{u:Nat}(h:T[72]?=some (.int .i64 u))(hu:u<4611686018427387904)(w:World):(execOp (Act.eval ⟨T,[]⟩) {dst:=some 77,op:=.binOp .add 3 (.tmp 72) (.const (.int .i64 1)) 3,type:=3,pos:= "keydir.go:117",after:=#[],guard:=none}).run Tryz.prog w=.ok (.value (.int .i64 ((u+1:Nat):Int))) w/\
 (execOp (Act.eval ⟨T,[]⟩) {dst:=some 77,op:=.binOp .add 3 (.tmp 72) (.const (.int .i64 1)) 3,type:=3,pos:= "keydir.go:117",after:=#[],guard:=none}).events Tryz.prog w #[]=#[]:=by
 have h1:=J6 (ds:=[]) h;have h2:Act.eval ⟨T,[]⟩ (.const (.int .i64 1))=.int .i64 1:=rfl;have h3:IntKind.i64.wrap ((u:Int)+1)=(u:Int)+1:=by rw[IntKind.wrap_i64];omega
 generalize Act.eval ⟨T,[]⟩ = ρ at h1 h2⊢;constructor
 ·show _=Result.ok (Next.value (Value.int .i64 ((u:Int)+1))) w;simp[go_sem,h1,h2,h3]
 ·simp[go_sem,h1,h2]
section
variable{T:Array Value}{w:World}{x:Option Nat}{Stop:Option Nat->Goroutine->World->Prop}{k:List Item}
theorem b55(hP:Z.P=Tryz.prog)(hT:Lay Z T0 V4 V6 V11 T j)
 (h:∃Tr,W0 Z Stop Tr x (G ((base 14).at ⟨T.setIfInBounds 73 (.bool (decide ((j:Int)<Z.n))),[]⟩ (.code (if decide ((j:Int)<Z.n) then .skip else .exit 2)::.code (.seq (.block 3 a5I) (.region 23 #[{dst:=some 77,op:=.binOp .add 3 (.tmp 72) (.const (.int .i64 1)) 3,type:=3,pos:= "keydir.go:117",after:=#[],guard:=none},{dst:=some 72,op:=.move (.tmp 77),type:=3,pos:= "keydir.go:117",after:=#[{on:=0,ground:=.data}],guard:=none}] false))::k)) cs) w):
 ∃Tr,W0 Z Stop Tr x (G ((base 14).at ⟨T,[]⟩ (.code Z7::k)) cs) w:=by
 rw[round_eq];refine L8 rfl (fun _=>stepG_seq) (L8 rfl (fun _=>stepG_region) ?_);refine a2k (i:=0) (rest:=[]) rfl rfl (by decide) (v:=.bool (decide ((j:Int)<Z.n))) (fun w=>hP▸c2Q j Z.n (J6 hT.t72) (J6 hT.t71) w _ _ _ _) (fun w=>hP▸c4J (J6 hT.t72) (J6 hT.t71) w _ _ _ _) ?_;refine L8 rfl (fun _=>stepG_region_end) (L8 rfl (fun _=>stepG_seq) (L8 rfl (fun _=>stepG_cond (t:=decide ((j:Int)<Z.n)) (J6 (a0o (by rw[hT.size];decide)))) h))
end
theorem b7J(hP:Z.P=Tryz.prog)(hty:Z.ty=149){T:Array Value}{w:World}(hT:Lay Z T0 V4 V6 V11 T Z.n)(hF:Kn Z none w00 w):
 ∃Tr,W0 Z (AtKd Z (a5J Z w00 T0 V4 V6 V11 K cs)) Tr none (G ((base 14).at ⟨T,[]⟩ (.code Z7::.inLoop Z7::.inBlock 2::.code (H8 9)::K)) cs) w:=by
 refine b55 hP hT ?_;have q1:decide ((Z.n:Int)<(Z.n:Int))=false:=by simp
 rw[q1];have hT1:=hT.set 73 (.bool false) (by decide);refine L8 rfl (fun _=>stepG_exit (k':=.code (H8 9)::K) (by rfl)) ?_;rw[c4H];refine L8 rfl (fun _=>stepG_seq) (L8 rfl (fun _=>stepG_region) ?_);have start:=fun a₀=>b5i (Z:=Z) (L:=link) (b₀:=base 14) (a₀:=a₀) (ops₀:=a8V) (i₀:=0) (rest₀:=[]) (k₀:=.code (H8 10)::K) (cs:=cs) (hP▸wgLib) hty hF;have e24:List.range a8V.size=[0]:=by rw[b2Z];rfl
 rw[e24];refine b6r (o:=_) (by rw[b2Z];rfl) (by rfl) (by decide) rfl (by rw[hP];exact Tryz.func63) (by kernel_rfl) rfl ?_;have ea:#[Operand.tmp 13].map (Act.eval ⟨T.setIfInBounds 73 (.bool false),[]⟩)=#[.pointer (some ⟨Z.Wg,0,none⟩)]:=by
  simp only[List.map_toArray,List.map_cons,List.map_nil];rw[J6 hT1.t13]
 rw[ea];exact Z4 (fun y g w=>b03 fun g w h=>⟨_,hT1,h⟩) (start ⟨_,[]⟩)
theorem c0j:(Tryz.prog.funcs[(base 14).fn]?).any (·.norace)=false:=by kernel_rfl
section
variable{T:Array Value}{w:World}
abbrev c4K:Oper:={dst:=some 14,op:=.alloc 3,type:=0,pos:= "keydir.go:117",after:=#[],guard:=none}
theorem c2S(ρ:Operand->Value)(w:World):(execOp ρ {dst:=some 14,op:=.alloc 3,type:=0,pos:= "keydir.go:117",after:=#[],guard:=none}).run Tryz.prog w=.ok (.value (.pointer (some ⟨w.heap.size,0,none⟩))) (w.alloc (.cells #[.int .i64 0] 3))/\
 (execOp ρ {dst:=some 14,op:=.alloc 3,type:=0,pos:= "keydir.go:117",after:=#[],guard:=none}).events Tryz.prog w #[]=#[]:=by
 constructor<;>simp[go_sem]
abbrev c0k:Oper:={dst:=none,op:=.store 3 (.tmp 14) (.tmp 74),type:=0,pos:= "keydir.go:117",after:=#[{on:=1,ground:=.data},{on:=0,ground:=.data},{on:=0,ground:=.phase},{on:=1,ground:=.phase}],guard:=none}
theorem c0l{ρ:Operand->Value}{b:Nat}{v:Int}(h1:ρ (.tmp 14)=.pointer (some ⟨b,0,none⟩))(h2:ρ (.tmp 74)=.int .i64 v){w:World}(hc:w.heap[b]?=some (.cells #[.int .i64 0] 3)):
 (execOp ρ c0k).run Tryz.prog w=.ok .skip (w.setCell ⟨b,0,none⟩ (.int .i64 v))/\(execOp ρ c0k).events Tryz.prog w #[]=#[⟨.cell ⟨b,0,none⟩,true,false⟩]:=by
 have hz:w.frozen? ⟨b,0,none⟩=false:=by simp[World.frozen?,hc]
 have hx:w.cell? ⟨b,0,none⟩=some (.int .i64 0):=by simp[World.cell?,hc]
 constructor
 ·unfold execOp;simp only[h1,h2];simp[go_sem,stored,hx,hz]
 ·unfold execOp;simp only[h1,h2];simp[go_sem,storedEv,hx,hz]
theorem heap_set(w:World)(b:Nat)(v u:Value)(t:TypeId)(h:w.heap[b]?=some (.cells #[u] t)):(w.setCell ⟨b,0,none⟩ v).heap[b]?=some (.cells #[v] t):=by
 simp[World.setCell,Array.getElem?_modify,h]
end
abbrev c6d:Oper:={dst:=some 74,op:=.move (.tmp 72),type:=3,pos:= "keydir.go:117",after:=#[],guard:=none}
abbrev c0n:Oper:={dst:=some 76,op:=.makeFunc (.func 59) #[] #[.tmp 13,.tmp 14,.tmp 6,.tmp 4,.tmp 11,.tmp 12],type:=1,pos:= "keydir.go:119",after:=#[],guard:=none}
abbrev c0o:Oper:={dst:=none,op:=.go {callee:=.value (.tmp 76),args:=#[],argTypes:=#[]},type:=0,pos:= "keydir.go:119",after:=#[{on:=0,ground:=.data}],guard:=none}
theorem run_go{ρ:Operand->Value}{f:Fn}{c:Array Value}(h:ρ (.tmp 76)=.func f #[] c)(w:World):(execOp ρ c0o).run Tryz.prog w=.ok (.spawn {target:=.fn f c,args:=#[]}) w/\(execOp ρ c0o).events Tryz.prog w #[]=#[]:=by
 constructor<;>(unfold execOp;simp[go_sem,Deferred.ofValue];rw[h];rfl)
abbrev c6e:Array Oper:=#[{dst:=some 77,op:=.binOp .add 3 (.tmp 72) (.const (.int .i64 1)) 3,type:=3,pos:= "keydir.go:117",after:=#[],guard:=none},{dst:=some 72,op:=.move (.tmp 77),type:=3,pos:= "keydir.go:117",after:=#[{on:=0,ground:=.data}],guard:=none}]
theorem a4r(w:World)(o:Obj):(w.alloc o).heap.size=w.heap.size+1:=Array.size_push ..
theorem a6C(w:World)(o:Obj){b:Nat}(h:b<w.heap.size):(w.alloc o).heap[b]?=w.heap[b]?:=by
 show(w.heap.push o)[b]?=_;rw[Array.getElem?_push_lt h,<-Array.getElem?_eq_getElem]
theorem b4C(w:World)(o:Obj):(w.alloc o).heap[w.heap.size]?=some o:=Array.getElem?_push_size
theorem a7k{AnchW:Goroutine->World->Prop}{r:Nat}{g g':Goroutine}{w:World}(h:∀Stop,(∃T,W0 Z Stop T none g' w)->∃T,W0 Z Stop T none g w)(k:Spawns Z (Fin Z AnchW) r none g' w):Spawns Z (Fin Z AnchW) r none g w:=by
 cases r with
 | zero=>exact⟨rfl,h _ k.2⟩
 | succ r=>exact h _ k
theorem b7K(hZ:a0f Z)(hP:Z.P=Tryz.prog)(hty:Z.ty=149)(hn:Z.n<2147483648)(hL:Z.L0<=w00.heap.size)
 (hworks:∀i b w,i<Z.n->Z.L0<=b->R0 Z none w00 w->w.heap[b]?=some (.cells #[.int .i64 i] 3)->a0D Z w->a0t Z w->WgLive Z.ty Z.Wg w->Works Z i b (born Tryz.prog (b54 Z V4 V6 V11 b)) w)(r:Nat):
 ∀j T w,j+r=Z.n->Lay Z T0 V4 V6 V11 T j->Kn Z none w00 w->Spawns Z (Fin Z (a5J Z w00 T0 V4 V6 V11 K cs)) r none (G ((base 14).at ⟨T,[]⟩ (.code Z7::.inLoop Z7::.inBlock 2::.code (H8 9)::K)) cs) w:=by
 induction r with
 | zero=>
  intro j T w hj hT hF;obtain rfl:j=Z.n:=by omega
  exact⟨rfl,b7J hP hty hT hF⟩
 | succ r ih=>
  intro j T w hj hT hF;have ej:Z.n - (r+1)=j:=by omega
  have hjn:j<Z.n:=by omega
  show ∃Tr,W0 Z (AtKdS Z (Z.n - (r+1)) (Spawns Z (Fin Z (a5J Z w00 T0 V4 V6 V11 K cs)) r)) Tr none _ w;rw[ej];refine b55 hP hT ?_;have q1:decide ((j:Int)<(Z.n:Int))=true:=by simp;omega
  rw[q1];have hT1:=hT.set 73 (.bool true) (by decide);generalize T.setIfInBounds 73 (.bool true)=T1 at hT1⊢;rw[if_pos rfl,show Item.code (.seq (.block 3 a5I) _)=Item.code (.seq (.block 3 _) _) from congrArg (fun c=>Item.code (.seq (.block 3 c) _)) c2P];refine L8 rfl (fun _=>stepG_skip) (L8 rfl (fun _=>stepG_seq) (L8 rfl (fun _=>stepG_block) (L8 rfl (fun _=>stepG_seq) (L8 rfl (fun _=>stepG_region) ?_))));refine a2k (i:=0) (rest:=[1,2]) (o:=c6d) rfl rfl (by decide) (v:=.int .i64 j) (fun w=>by rw[<-J6 (ds:=[]) hT1.t72];rfl) (fun w=>rfl) ?_;have hT2:=hT1.set 74 (.int .i64 j) (by decide);have t74:(T1.setIfInBounds 74 (.int .i64 j))[74]?=some (.int .i64 j):=a0o (by rw[hT1.size];decide);have eT:Act.put ⟨T1,[]⟩ (some 74) (.int .i64 j)=⟨T1.setIfInBounds 74 (.int .i64 j),[]⟩:=rfl;rw[show c6d.dst=some 74 from rfl,eT];clear eT;generalize T1.setIfInBounds 74 (.int .i64 j)=T2 at hT2 t74⊢;refine c1p (i:=1) (rest:=[2]) (o:=c4K) rfl rfl (by decide) fun w₁ h₁=>?_;replace hF:=hF.rely h₁;clear h₁;rw[hP];have hrb:=c2S (Act.eval ⟨T2,[]⟩) w₁;have hb:Z.L0<=w₁.heap.size:=Nat.le_trans hL hF.1.size;refine⟨_,_,some w₁.heap.size,hrb.1,⟨by rw[a4r];omega,rfl,rfl,rfl,fun b hb _=>a6C _ _ hb,.inr (.inr ⟨_,rfl,Nat.le_refl _,by rw[a4r];omega⟩),by rw[show listed Tryz.prog (base 14).fn ⟨T2,[]⟩ c4K w₁=#[] by unfold listed;rw[hrb.2];exact seen_none _ _];simp⟩,?_⟩;clear hrb;have hnew:=b4C w₁ (.cells #[.int .i64 0] 3);have hF2:R0 Z none w00 (w₁.alloc (.cells #[.int .i64 0] 3))/\WgLive Z.ty Z.Wg (w₁.alloc (.cells #[.int .i64 0] 3)):=by
   have hW:Z.Wg<w₁.heap.size:=Nat.lt_of_lt_of_le hZ.W0 hb;have hl:WgLive Z.ty Z.Wg (w₁.alloc (.cells #[.int .i64 0] 3)):=let ⟨st,sm,h⟩:=hF.2;⟨st,sm,(a6C _ _ hW).trans h⟩;exact⟨⟨by rw[a4r];have:=hF.1.size;omega,fun b' hb'=>(a6C _ _ (Nat.lt_of_lt_of_le (hZ.eld b' hb').1 hb)).trans (hF.1.eld b' hb'),fun _ h=>(by cases h),fun _=>hl,fun b' hb'=>(a6C _ _ (Nat.lt_of_lt_of_le (hZ.sh b' hb').1 hb)).trans (hF.1.shb b' hb')⟩,hl⟩
  have hbs:w₁.heap.size<(w₁.alloc (.cells #[.int .i64 0] 3)).heap.size:=by rw[a4r];omega
  generalize w₁.alloc (.cells #[.int .i64 0] 3)=w₂ at hnew hF2 hbs⊢;generalize w₁.heap.size=b at hb hnew hbs⊢;clear hF;have hT3:=hT2.set 14 (.pointer (some ⟨b,0,none⟩)) (by decide);have t74':(T2.setIfInBounds 14 (.pointer (some ⟨b,0,none⟩)))[74]?=some (.int .i64 j):=C9 t74 (by decide);have t14:(T2.setIfInBounds 14 (.pointer (some ⟨b,0,none⟩)))[14]?=some (.pointer (some ⟨b,0,none⟩)):=a0o (by rw[hT2.size];decide);have eT:Act.put ⟨T2,[]⟩ c4K.dst (.pointer (some ⟨b,0,none⟩))=⟨T2.setIfInBounds 14 (.pointer (some ⟨b,0,none⟩)),[]⟩:=rfl;rw[eT];clear eT;generalize T2.setIfInBounds 14 (.pointer (some ⟨b,0,none⟩))=T3 at hT3 t74' t14⊢;refine c3h (i:=2) (rest:=[]) (o:=c0k) rfl rfl (by decide) fun w₃ h₃=>?_;rw[hP];have hc3:w₃.heap[b]?=some (.cells #[.int .i64 0] 3):=(h₃.cur b rfl).trans hnew;obtain⟨hr1,hr2⟩:=c0l (J6 (ds:=[]) t14) (J6 (ds:=[]) t74') hc3;have hne:b≠Z.Wg:=by have:=hZ.W0;omega
  have hF3:R0 Z none w00 w₃:=R0.trans Z hF2.1 ⟨h₃.size,h₃.eld,fun _ h=>(by cases h),h₃.live,h₃.shb⟩;have hlv:WgLive Z.ty Z.Wg w₃:=h₃.live hF2.2;have hset:∀b',b'≠b->(w₃.setCell ⟨b,0,none⟩ (.int .i64 j)).heap[b']?=w₃.heap[b']?:=fun b' hb'=>Below.heap_setCell _ _ _ _ hb';have hsz:(w₃.setCell ⟨b,0,none⟩ (.int .i64 j)).heap.size=w₃.heap.size:=(aside_setCell w₃ ⟨b,0,none⟩ _).size;refine⟨_,some b,hr1,⟨Nat.le_of_eq hsz.symm,rfl,rfl,rfl,fun b' _ hb'=>hset b' fun e=>hb' (e▸rfl),.inl rfl,?_⟩,?_⟩
  ·rw[show listed Tryz.prog (base 14).fn ⟨T3,[]⟩ c0k w₃=#[⟨.cell ⟨b,0,none⟩,true,false⟩] by unfold listed;rw[hr2,seen_eq c0j (by simp)]];intro e he;rw[Array.mem_singleton] at he;subst he;exact⟨by rw[hsz];have:=h₃.size;exact Nat.lt_of_lt_of_le hbs this,rfl,.inr rfl⟩
  have hl4:WgLive Z.ty Z.Wg (w₃.setCell ⟨b,0,none⟩ (.int .i64 j)):=let ⟨st,sm,h⟩:=hlv;⟨st,sm,(hset _ (Ne.symm hne)).trans h⟩;have hF4:R0 Z none w00 (w₃.setCell ⟨b,0,none⟩ (.int .i64 j)):=⟨by rw[hsz];exact hF3.size,fun b' hb'=>(hset b' (by have:=(hZ.eld b' hb').1;omega)).trans (hF3.eld b' hb'),fun _ h=>(by cases h),fun _=>hl4,fun b' hb'=>(hset b' (by have:=(hZ.sh b' hb').1;omega)).trans (hF3.shb b' hb')⟩;have hc4:(w₃.setCell ⟨b,0,none⟩ (.int .i64 j)).heap[b]?=some (.cells #[.int .i64 j] 3):=heap_set w₃ b _ _ 3 hc3;generalize w₃.setCell ⟨b,0,none⟩ (.int .i64 j)=w₄ at hl4 hF4 hc4⊢;clear hsz hset hlv hF3 hr1 hr2 hc3 h₃ hF2 hnew hbs;have eT:Act.put ⟨T3,[]⟩ c0k.dst undef=⟨T3,[]⟩:=rfl;rw[eT];clear eT;refine L8 rfl (fun _=>stepG_region_end) (L8 rfl (fun _=>stepG_seq) (L8 rfl (fun _=>stepG_region) ?_));refine b6r (i:=0) (rest:=[]) rfl rfl (by decide) rfl (by rw[hP];exact Tryz.func58) (by kernel_rfl) rfl ?_;have ea:#[Operand.tmp 13,.const (.int .i64 1)].map (Act.eval ⟨T3,[]⟩)=#[.pointer (some ⟨Z.Wg,0,none⟩),.int .i64 1]:=by
   simp only[List.map_toArray,List.map_cons,List.map_nil];rw[J6 hT3.t13];rfl
  rw[ea];refine a01 (L:=link) (j:=j) (w0:=w₄) hZ (hP▸wgLib) hty (fun e=>hne (Option.some.inj e)) (fun w₅ h₅=>?_) w₄ ⟨R0.refl Z _ _,hl4⟩;have hF5:R0 Z none w00 w₅:=R0.trans Z hF4 ⟨h₅.1.size,h₅.1.eld,fun _ h=>(by cases h),h₅.1.live,h₅.1.shb⟩;have hc5:w₅.heap[b]?=some (.cells #[.int .i64 j] 3):=(h₅.1.cur b rfl).trans hc4;have hl5:=h₅.2;clear h₅ hF4 hc4 hl4;have eT:Act.put ⟨T3,[]⟩ ((#[({dst:=some 75,op:=.call {callee:=.value (.func 58),args:=#[.tmp 13,.const (.int .i64 1)],argTypes:=#[149,3]},type:=0,pos:= "keydir.go:118",after:=#[],guard:=none}:Oper)][0]?).bind (·.dst)) (.tuple #[])=⟨T3.setIfInBounds 75 (.tuple #[]),[]⟩:=rfl;rw[eT];clear eT;have hT4:=hT3.set 75 (.tuple #[]) (by decide);have t14':(T3.setIfInBounds 75 (.tuple #[]))[14]?=some (.pointer (some ⟨b,0,none⟩)):=C9 t14 (by decide);generalize T3.setIfInBounds 75 (.tuple #[])=T4 at hT4 t14'⊢;refine L8 rfl (fun _=>stepG_region_end) (L8 rfl (fun _=>stepG_region) ?_);have hv:∀w,(execOp (Act.eval ⟨T4,[]⟩) c0n).run Tryz.prog w=.ok (.value (.func (.func 59) #[] (b1I Z V4 V6 V11 b))) w/\(execOp (Act.eval ⟨T4,[]⟩) c0n).events Tryz.prog w #[]=#[]:=fun w=>by
   have e1:#[Operand.tmp 13,.tmp 14,.tmp 6,.tmp 4,.tmp 11,.tmp 12].map (Act.eval ⟨T4,[]⟩)=b1I Z V4 V6 V11 b:=by
    simp only[List.map_toArray,List.map_cons,List.map_nil];rw[J6 hT4.t13,J6 t14',J6 hT4.t6,J6 hT4.t4,J6 hT4.t11,J6 hT4.t12];rfl
   rw[<-e1];constructor<;>simp[go_sem]
  refine a2k (i:=0) (rest:=[1]) (o:=c0n) rfl rfl (by decide) (fun w=>hP▸(hv w).1) (fun w=>hP▸(hv w).2) ?_;have eT:Act.put ⟨T4,[]⟩ c0n.dst (.func (.func 59) #[] (b1I Z V4 V6 V11 b))=⟨T4.setIfInBounds 76 (.func (.func 59) #[] (b1I Z V4 V6 V11 b)),[]⟩:=rfl;rw[eT];clear eT;have hT5:=hT4.set 76 (.func (.func 59) #[] (b1I Z V4 V6 V11 b)) (by decide);have t76:(T4.setIfInBounds 76 (.func (.func 59) #[] (b1I Z V4 V6 V11 b)))[76]?=some (.func (.func 59) #[] (b1I Z V4 V6 V11 b)):=a0o (by rw[hT4.size];decide);generalize T4.setIfInBounds 76 (.func (.func 59) #[] (b1I Z V4 V6 V11 b))=T5 at hT5 t76⊢;refine c3i fun w₆ h₆=>?_;have hr:=run_go (J6 (ds:=[]) t76) w₆;have hF6:R0 Z none w00 w₆:=R0.trans Z hF5 ⟨h₆.size,h₆.eld,fun _ h=>(by cases h),h₆.live,h₆.shb⟩;have hst:=stepG_spawn (P:=Tryz.prog) (main:=true) (b:=base 14) (a:=⟨T5,[]⟩) (k:=.inBlock 3::.code (.region 23 c6e false)::.inLoop Z7::.inBlock 2::.code (H8 9)::K) (cs:=cs) (ops:=#[c0n,c0o]) (i:=1) (rest:=[]) (o:=c0o) rfl rfl (by decide) hr.1 rfl;rw[show listed Tryz.prog (base 14).fn ⟨T5,[]⟩ c0o w₆=#[] by unfold listed;rw[hr.2];exact seen_none _ _] at hst;refine⟨rfl,b,_,_,rfl,(by rw[hP];exact hst),rfl,fun hal hcb hlv=>hworks j b w₆ hjn hb hF6 ((h₆.cur b rfl).trans hc5) hal hcb hlv,?_⟩;have hl6:WgLive Z.ty Z.Wg w₆:=h₆.live hl5;have hi:=c2R (T:=T5) hT5.t72 (by omega);have hT6:=hT5.set 77 (.int .i64 ((j+1:Nat):Int)) (by decide);have t77:(T5.setIfInBounds 77 (.int .i64 ((j+1:Nat):Int)))[77]?=some (.int .i64 ((j+1:Nat):Int)):=a0o (by rw[hT5.size];decide);refine a7k (g':=G ((base 14).at ⟨(T5.setIfInBounds 77 (.int .i64 ((j+1:Nat):Int))).setIfInBounds 72 (.int .i64 ((j+1:Nat):Int)),[]⟩ (.code Z7::.inLoop Z7::.inBlock 2::.code (H8 9)::K)) cs) (fun Stop hk=>?_) (ih (j+1) _ w₆ (by omega) (hT6.next (j+1)) ⟨hF6,hl6⟩);refine L8 rfl (fun _=>stepG_region_end) (L8 rfl (fun _=>stepG_inBlock) (L8 rfl (fun _=>stepG_region) ?_));refine a2k (i:=0) (rest:=[1]) rfl rfl (by decide) (fun w=>hP▸(hi w).1) (fun w=>hP▸(hi w).2) ?_;refine a2k (i:=1) (rest:=[]) (v:=.int .i64 ((j+1:Nat):Int)) rfl rfl (by decide) (fun w=>?_) (fun w=>rfl) ?_
  ·exact congrArg (fun v=>(Result.ok (Next.value v) w:Result Next)) (J6 (ds:=[]) t77)
  ·exact L8 rfl (fun _=>stepG_region_end) (L8 rfl (fun _=>stepG_inLoop) hk)
end
section
open Go.RowKit Go.Conc Go.Conc.Lib
noncomputable def bot:Frame:={(default:Frame) with fn:=Tryz.prog.funcs.size,defers:=[],mode:=.panicking [goexitEntry]}
theorem born_step(c:Array Value)(w:World):stepG Tryz.prog false (born Tryz.prog {target:=.fn (.func 59) c,args:=#[]}) w =
 .go (G ((baseD 59).at ⟨c++Array.replicate (29 - c.size) undef,[]⟩ [.code (a1I 0)]) [bot]) w #[]:=by
 simp[born,stepG,unwind,callDeferred,invoke,callFunc,Tryz.func59,Tryz.f59,seen,GStep.after,G,Frame.enter,Frame.at,baseD,bot,a1I,Code.behind];exact seen_none _ _
theorem quits_tail(T:Array Value):QuitsD Tryz.prog 2 0 (G {(baseD 59).at ⟨T,[]⟩ [] with mode:=.returning} [bot]):=by
 refine QuitsD.ctl (g':=G bot []) rfl (fun w=>?_) ?_
 ·simp[G,stepG,unwind,doReturn,results,Frame.at,baseD,bot,Tryz.func59,Tryz.f59,seen,GStep.after,goexitEntry];exact seen_none _ _
 refine QuitsD.ctl (g':={G bot [] with status:=.finished}) rfl (fun w=>?_) ⟨rfl,rfl⟩;simp[G,stepG,unwind,bot,goexitEntry,Frame.catches];rfl
end
end Go.Proofs.YtgpbhjjajpbeeaaGreatDoor
namespace Go.Bi
section
variable{S:Sit}{P:Program}
structure POK(S:Sit)(P:Program):Prop where
 inj:∀a b,S.D a->S.D b->S.ren a=S.ren b->a=b
def ZOK(S:Sit)(P:Program)(t:TypeId):Prop:=∀i z,P.info? t=some i->i.zero=some z->VR S z z
theorem b5O{a:Addr}(h:S.D a.block):Im S P (VR S) (load a) (load (rA S a)):=⟨rfl,rfl,h,rfl,fun _ _ hv=>hv⟩
theorem b85{a:Addr}(h:S.D a.block){v v':Value}(hv:VR S v v'):Im S P (fun _ _=>True) (store a v) (store (rA S a) v'):=⟨rfl,rfl,h,rfl,hv,trivial⟩
theorem b0q{o o':Obj}(h:a7O S o o'):Im S P (fun r r'=>S.D r/\r'=S.ren r) (newObj o) (newObj o'):=⟨h,fun _ hr=>⟨hr,rfl⟩⟩
theorem a3P{r:Nat}(h:S.D r):Im S P (fun a b=>b=a) (shape r) (shape (S.ren r)):=.inr ⟨h,rfl,fun _=>rfl⟩
theorem a2N(q:Question):Im S P (fun a b=>b=a) (choose q) (choose q):=⟨rfl,fun _=>rfl⟩
theorem Y8:Im S P (fun a b=>a=P/\b=P) program program:=⟨rfl,rfl⟩
theorem b5P{m:Mark}(h:MarkOK m):Im S P (fun _ _=>True) (mark m) (mark m):=⟨rfl,h,trivial⟩
theorem A8{α β:Type}{R:α->β->Prop}(x:String)(s:Sem β):Im S P R (stuck x) s:=Im.halt _ _
theorem A7{α β:Type}{R:α->β->Prop}(x:Unsupported)(s:Sem β):Im S P R (unsupported x) s:=Im.halt _ _
theorem a8q{α β:Type}{R:α->β->Prop}(x:Value)(s:Sem β):Im S P R (goPanic x) s:=Im.halt _ _
theorem a3f(n:Nat):Im S P (fun _ _=>True) (askRoom n) (askRoom n):=by
 unfold askRoom;split
 ·exact b5P trivial
 ·exact Im.pure trivial
theorem F5(t:TypeId):Im S P (fun a b=>b=a/\P.underlying t=some a) (underlying t) (underlying t):=by
 unfold underlying;refine Im.bind Y8 ?_;rintro _ _ ⟨rfl,rfl⟩;split
 ·rename_i h;exact Im.pure ⟨rfl,h⟩
 ·exact A8 _ _
theorem Y1(t:TypeId):Im S P (fun a b=>b=a/\P.info? t=some a) (typeInfo t) (typeInfo t):=by
 unfold typeInfo;refine Im.bind Y8 ?_;rintro _ _ ⟨rfl,rfl⟩;split
 ·rename_i h;exact Im.pure ⟨rfl,h⟩
 ·exact A8 _ _
theorem U1(t:TypeId):Im S P (fun a b=>b=a) (sizeOf t) (sizeOf t):=by
 unfold sizeOf;refine Im.bind (Y1 t) ?_;rintro a _ ⟨rfl,_⟩;exact Im.pure rfl
theorem b86(t:TypeId):Im S P (fun a b=>b=a) (isAgg t) (isAgg t):=by
 unfold isAgg;refine Im.bind (F5 t) ?_;rintro a _ ⟨rfl,_⟩;split<;>exact Im.pure rfl
theorem b6C(t:TypeId):Im S P (fun a b=>b=a) (elemOf t) (elemOf t):=by
 unfold elemOf;refine Im.bind (F5 t) ?_;rintro a _ ⟨rfl,_⟩;split
 ·exact Im.pure rfl
 ·exact A8 _ _
theorem Y2(t:TypeId)(hz:ZOK S P t):Im S P (VR S) (zeroValue t) (zeroValue t):=by
 unfold zeroValue;refine Im.bind (Y1 t) ?_;rintro a _ ⟨rfl,hi⟩;split
 ·rename_i h;exact Im.pure (hz _ _ hi h)
 ·exact A7 _ _
theorem VR.cells{v v':Value}(h:VR S v v'):AR S v.cells v'.cells:=by
 cases h with
 | agg c c' hc hc'=>exact⟨hc,hc'⟩
 | _=>exact AR.one (by constructor<;>assumption)
theorem a6o{a:Addr}(h:S.D a.block)(n:Nat):∀(i:Nat)(acc acc':Array Value),AR S acc acc'->Im S P (AR S) (loadCellsFrom a i n acc) (loadCellsFrom (rA S a) i n acc'):=by
 induction n with
 | zero=>intro i acc acc' hA;exact Im.pure hA
 | succ n ih=>
  intro i acc acc' hA;unfold loadCellsFrom;rw[<-a14];refine Im.bind (b5O (by rw[add_block];exact h)) ?_;intro v v' hv;exact ih _ _ _ (hA.push hv)
theorem a3g{a:Addr}(h:S.D a.block)(n:Nat):Im S P (AR S) (loadCells a n) (loadCells (rA S a) n):=a6o h n 0 _ _ AR.nil
theorem a0E{a:Addr}(h:S.D a.block):∀(l l':List Value)(i:Nat),LR (VR S) l l'->Im S P (fun _ _=>True) (storeCells a l i) (storeCells (rA S a) l' i):=by
 intro l l' i hl
 induction hl generalizing i with
 | nil=>exact Im.pure trivial
 | cons hv _ ih=>
  unfold storeCells;rw[<-a14];refine Im.bind (b85 (by rw[add_block];exact h) hv) ?_;intro _ _ _;exact ih _
theorem AR.list{c c':Array Value}(h:AR S c c'):LR (VR S) c.toList c'.toList:=by
 obtain⟨l⟩:=c;obtain⟨l'⟩:=c';obtain⟨h1,h2⟩:=h;simp only[List.size_toArray] at h1;simp only[List.getElem_toArray] at h2
 induction l generalizing l' with
 | nil=>
  cases l' with
  | nil=>exact .nil
  | cons _ _=>simp at h1
 | cons x l ih=>
  cases l' with
  | nil=>simp at h1
  | cons y l'=>
   refine .cons (h2 0 (by simp) (by simp)) (ih l' (fun i h3 h4=>?_) (by simpa using h1));have:=h2 (i+1) (by simpa using h3) (by simpa using h4);simpa using this
theorem a8r(t:TypeId){a:Addr}(h:S.D a.block):Im S P (VR S) (loadVar t a) (loadVar t (rA S a)):=by
 unfold loadVar;refine Im.bind (b86 t) ?_;rintro b _ rfl;split
 ·refine Im.bind (U1 t) ?_;rintro n _ rfl;refine Im.bind (a3g h _) ?_;intro c c' hc;exact Im.pure (VR.agg' hc)
 ·exact b5O h
theorem b2u(t:TypeId){a:Addr}(h:S.D a.block){v v':Value}(hv:VR S v v'):Im S P (fun _ _=>True) (storeVar t a v) (storeVar t (rA S a) v'):=by
 unfold storeVar;refine Im.bind (U1 t) ?_;rintro n _ rfl;have hc:=hv.cells;dsimp only;rw[hc.size];split
 ·exact A8 _ _
 ·exact a0E h _ _ _ hc.list
theorem a1T(t:TypeId){c c':Array Value}(h:AR S c c'):Im S P (fun a a'=>S.D a.block/\a'=rA S a) (newRow t c) (newRow t c'):=by
 unfold newRow;refine Im.bind (b0q (.cells _ _ _ _ _ h (c2b.refl _))) ?_;rintro r _ ⟨hr,rfl⟩;exact Im.pure ⟨hr,rfl⟩
theorem b0r(t:TypeId){v v':Value}(h:VR S v v'):Im S P (fun a a'=>S.D a.block/\a'=rA S a) (newVar t v) (newVar t v'):=a1T t h.cells
def eOK:RuntimeError->Prop
 | .typeAssertion ..=>False
 | _=>True
theorem P6{α β:Type}{R:α->β->Prop}(e:RuntimeError)(he:eOK e):Im S P R (runtimePanic e) (runtimePanic e):=by
 unfold runtimePanic;refine Im.bind Y8 ?_;rintro p p' ⟨hp,hp'⟩;subst hp';subst hp
 cases e with
 | typeAssertion i c a m=>exact he.elim
 | panicNil=>
  refine Im.bind (b6C _) ?_;rintro x _ rfl
  exact Im.bind (b0r _ (VR.agg' AR.nil)) fun _ _ _=>a8q _ _
 | _=>exact a8q _ _
theorem a18{α β:Type}{R:α->β->Prop}(k:IntKind)(x y:Int)(c:BoundsCode):Im S P R (boundsPanic k x y c) (boundsPanic k x y c):=by
 unfold boundsPanic;dsimp only;split
 ·refine Im.bind (R:=fun a b=>b=a) (Im.bind (S:=S) (P:=P) (R:=fun a b=>b=a) (a2N _) ?_) ?_
  ·rintro a _ rfl;exact Im.pure rfl
  ·rintro a _ rfl;exact P6 _ trivial
 ·refine Im.bind (R:=fun a b=>b=a) (Im.pure rfl) ?_;rintro a _ rfl;exact P6 _ trivial
theorem a4T{v v':Value}(h:VR S v v'):Im S P (fun a b=>b=a/\v=.int a.1 a.2) (asIntOf v) (asIntOf v'):=by
 cases h<;>first|exact Im.pure ⟨rfl,rfl⟩|exact A7 _ _|exact A8 _ _
theorem b87{v v':Value}(h:VR S v v'):Im S P (fun a b=>b=a) (asInt v) (asInt v'):=by
 unfold asInt;refine Im.bind (a4T h) ?_;rintro a _ ⟨rfl,_⟩;exact Im.pure rfl
theorem b6D{v v':Value}(h:VR S v v'):Im S P (fun a b=>b=a) (asBool v) (asBool v'):=by
 cases h<;>first|exact Im.pure rfl|exact A8 _ _
theorem b0s{v v':Value}(h:VR S v v'):Im S P (fun a a'=>S.D a.block/\a'=rA S a) (asAddr v) (asAddr v'):=by
 cases h with
 | pnil=>exact P6 (α:=Addr) (β:=Addr) .nilDeref trivial
 | ptr a h=>exact Im.pure ⟨h,rfl⟩
 | _=>exact A8 _ _
theorem a1u{v v':Value}(h:VR S v v'):Im S P (fun a a'=>S.D a.block/\a'=rA S a) (Instr.sureAddr v) (Instr.sureAddr v'):=by
 cases h with
 | ptr a h=>exact Im.pure ⟨h,rfl⟩
 | _=>exact A8 _ _
theorem b0t{r:Nat}(h:S.D r):Im S P (fun o o'=>∃a l,S.D a.block/\o=.number a l/\o'=.number (rA S a) l) (getObj r) (getObj (S.ren r)):=⟨h,rfl,fun a l ha=>⟨a,l,ha,rfl,rfl⟩⟩
theorem b0u{r:Nat}(h:S.D r):Im S P (fun a b=>b=a) (viewAt r) (viewAt (S.ren r)):=by
 unfold viewAt;refine Im.bind (a3P h) ?_;rintro s _ rfl;split
 ·exact Im.pure rfl
 ·refine Im.bind (b0t h) ?_;rintro _ _ ⟨a,l,ha,rfl,rfl⟩;exact Im.pure rfl
inductive NR(S:Sit):Option (Addr×Bool)->Option (Addr×Bool)->Prop
 | none:NR S none none
 | some (a:Addr) (l:Bool) (h:S.D a.block):NR S (some (a,l)) (some (rA S a,l))
theorem a7f{r:Nat}(h:S.D r):Im S P (NR S) (numberAt r) (numberAt (S.ren r)):=by
 unfold numberAt;refine Im.bind (a3P h) ?_;rintro s _ rfl;split
 ·exact Im.pure .none
 ·refine Im.bind (b0t h) ?_;rintro _ _ ⟨a,l,ha,rfl,rfl⟩;exact Im.pure (.some a l ha)
theorem U3{a:Addr}(h:S.D a.block):Im S P (fun p p'=>S.D p.1.block/\p'=(rA S p.1,p.2)) (behindNumber a) (behindNumber (rA S a)):=by
 unfold behindNumber;refine Im.bind (a7f h) ?_;intro o o' ho
 cases ho with
 | none=>exact Im.pure ⟨h,rfl⟩
 | some b l hb=>exact Im.pure ⟨hb,rfl⟩
theorem b2v{a:Addr}(h:S.D a.block)(l:Bool):Im S P (VR S) (asNumber a l) (asNumber (rA S a) l):=by
 unfold asNumber;refine Im.bind (b0q (.number _ _ h)) ?_;rintro r _ ⟨hr,rfl⟩;exact Im.pure (.ptr ⟨r,0,none⟩ hr)
theorem b6E{a:Addr}(h:S.D a.block):Im S P (fun _ _=>True) (noView a) (noView (rA S a)):=by
 unfold noView;refine Im.bind (b0u h) ?_;rintro s _ rfl;split
 ·exact A7 _ _
 ·exact Im.pure trivial
end
section
variable{S:Sit}{P:Program}
theorem b88(t:TypeId)(hz:ZOK S P t):Im S P (VR S) (Instr.alloc t true (.tuple #[])) (Instr.alloc t true (.tuple #[])):=by
 unfold Instr.alloc;refine Im.bind (Y2 t hz) ?_;intro z z' hz;refine Im.bind (b0r t hz) ?_;rintro a _ ⟨ha,rfl⟩;exact Im.pure (.ptr a ha)
structure PR(p p':Nat×Value):Prop where
 at_:p'.1=p.1
 val:VR S p.2 p'.2
theorem b89(off:Nat):∀(l l':List (Value×Nat))(c c':Array Value),LR (fun p p'=>VR S p.1 p'.1/\p'.2=p.2) l l'->AR S c c'->
 AR S (l.foldl (fun cs(c,j)=>cs.setIfInBounds (off+j) c) c) (l'.foldl (fun cs(c,j)=>cs.setIfInBounds (off+j) c) c'):=by
 intro l l' c c' hl
 induction hl generalizing c c' with
 | nil=>intro h;exact h
 | @cons p p' l l' h _ ih=>
  intro hc;obtain⟨v,i⟩:=p;obtain⟨v',i'⟩:=p';obtain⟨h1,h2⟩:=h;dsimp only at h1 h2;subst h2;rw[List.foldl_cons,List.foldl_cons];exact ih _ _ (hc.set _ h1)
theorem c3Z{l l':List Value}(h:LR (VR S) l l'):∀k,LR (fun p p'=>VR S p.1 p'.1/\p'.2=p.2) (l.zipIdx k) (l'.zipIdx k):=by
 induction h with
 | nil=>intro k;exact .nil
 | cons h _ ih=>intro k;exact .cons ⟨h,rfl⟩ (ih _)
theorem a8s(place:Nat->Option (Nat×Nat)):∀(l l':List (Nat×Value))(c c':Array Value),LR (PR (S:=S)) l l'->AR S c c'->
 (Instr.fill place c l=none)\/∃x x',Instr.fill place c l=some x/\Instr.fill place c' l'=some x'/\AR S x x':=by
 intro l l' c c' hl
 induction hl generalizing c c' with
 | nil=>intro h;exact .inr ⟨c,c',rfl,rfl,h⟩
 | @cons p p' l l' h _ ih=>
  intro hc;obtain⟨i,v⟩:=p;obtain⟨i',v'⟩:=p';obtain⟨rfl,hv⟩:=h;have hcs:=hv.cells;unfold Instr.fill;dsimp only
  cases place i' with
  | none=>exact .inl rfl
  | some os=>
   obtain⟨off,size⟩:=os;dsimp only at hcs⊢;rw[<-hcs.size,<-hc.size];split
   ·exact .inl rfl
   ·refine ih _ _ ?_;have h1:LR (fun p p'=>VR S p.1 p'.1/\p'.2=p.2) v.cells.zipIdx.toList v'.cells.zipIdx.toList:=by
     rw[Array.toList_zipIdx,Array.toList_zipIdx];exact c3Z hcs.list 0
    have:=b89 off _ _ c c' h1 hc;rw[<-Array.foldl_toList,<-Array.foldl_toList];exact this
theorem b1n{α β:Type}(f:α->Sem β)(h:∀x,Im S P (fun a b=>b=a) (f x) (f x))(l:List α):Im S P (fun a b=>b=a) (l.mapM f) (l.mapM f):=by
 induction l with
 | nil=>exact Im.pure rfl
 | cons x l ih=>
  rw[List.mapM_cons];refine Im.bind (h x) ?_;rintro _ a rfl;refine Im.bind ih ?_;rintro _ b rfl;exact Im.pure rfl
theorem a9E{α β:Type}(f:α->Sem β)(h:∀x,Im S P (fun a b=>b=a) (f x) (f x))(l:Array α):Im S P (fun a b=>b=a) (l.mapM f) (l.mapM f):=by
 rw[Array.mapM_eq_mapM_toList];show Im S P _ (Functor.map List.toArray _) (Functor.map List.toArray _);rw[map_eq_pure_bind];refine Im.bind (b1n f h _) ?_;rintro _ a rfl;exact Im.pure rfl
theorem b9a(t:TypeId)(hz:ZOK S P t){parts parts':Array (Nat×Value)}(h:LR (PR (S:=S)) parts.toList parts'.toList):Im S P (VR S) (Instr.build t parts) (Instr.build t parts'):=by
 unfold Instr.build;refine Im.bind (Y2 t hz) ?_;intro z z' hz;dsimp only;refine Im.bind (F5 t) ?_;rintro d _ ⟨rfl,_⟩;split
 ·refine Im.bind (a9E _ (fun f=>?_) _) ?_
  ·refine Im.bind (U1 _) ?_;rintro _ n rfl;exact Im.pure rfl
  ·rintro _ places rfl;rcases a8s (fun i=>places[i]?) _ _ _ _ h hz.cells with e|⟨x,x',e,e',hx⟩
   ·rw[e];exact A8 _ _
   ·rw[e,e'];exact Im.pure (VR.agg' hx)
 ·refine Im.bind (U1 _) ?_;rintro _ n rfl;rcases a8s (fun i=>some (i*n,n)) _ _ _ _ h hz.cells with e|⟨x,x',e,e',hx⟩
  ·rw[e];exact A8 _ _
  ·rw[e,e'];exact Im.pure (VR.agg' hx)
 ·exact A8 _ _
theorem b1o{c c':Array Value}(h:AR S c c')(hne:∀n,n≠0->True)(n:Nat)(hd:0<c.size\/n=0):AR S ((Array.range n).map (c[· % c.size]!)) ((Array.range n).map (c'[· % c'.size]!)):=by
 refine⟨by simp,fun i h1 h2=>?_⟩;simp only[Array.getElem_map,Array.getElem_range];simp only[Array.size_map,Array.size_range] at h1;rcases hd with hd|hd
 ·have hm:i%c.size<c.size:=Nat.mod_lt _ hd;have hm':i%c'.size<c'.size:=by rw[<-h.size];exact hm
  rw[getElem!_pos c _ hm,getElem!_pos c' _ hm'];have:=h.at_ (i%c.size) hm (by rw[<-h.size];exact hm);simpa only[h.size] using this
 ·omega
theorem b3X:VR S (default:Value) default:=VR.bool _
theorem a4H{c c':Array Value}(h:AR S c c')(n:Nat):AR S ((Array.range n).map (c[· % c.size]!)) ((Array.range n).map (c'[· % c'.size]!)):=by
 by_cases hd:0<c.size
 ·exact b1o h (fun _ _=>trivial) n (.inl hd)
 ·refine⟨by simp,fun i h1 h2=>?_⟩;simp only[Array.getElem_map,Array.getElem_range];have h0:c.size=0:=by omega
  have h0':c'.size=0:=by rw[<-h.size];exact h0
  rw[getElem!_neg c _ (by omega),getElem!_neg c' _ (by omega)];exact b3X
theorem a9F(t:TypeId)(hz:∀e,P.underlying t=some (.slice e)->ZOK S P e)(len:Nat){parts parts':Array (Nat×Value)}(h:LR (PR (S:=S)) parts.toList parts'.toList):Im S P (VR S) (Instr.buildSlice t len parts) (Instr.buildSlice t len parts'):=by
 unfold Instr.buildSlice;refine Im.bind (F5 t) ?_;rintro d _ ⟨rfl,hd⟩;split
 ·rename_i elem;refine Im.bind (U1 _) ?_;rintro _ size rfl;dsimp only;split
  ·exact A7 _ _
  ·have key:∀z z',AR S z z'->Im S P (VR S)
    (do
      let some cells:=Instr.fill (fun i=>some (i*size,size)) ((Array.range (len*size)).map (z[· % z.size]!)) parts.toList|stuck "buildSlice: a part of the wrong size"
      pure (.slice (some (<-newRow elem cells)) len len))
    (do
      let some cells:=Instr.fill (fun i=>some (i*size,size)) ((Array.range (len*size)).map (z'[· % z'.size]!)) parts'.toList|stuck "buildSlice: a part of the wrong size"
      pure (.slice (some (<-newRow elem cells)) len len)):=by
    intro z z' hz;rcases a8s (fun i=>some (i*size,size)) _ _ _ _ h (a4H hz (len*size)) with e|⟨x,x',e,e',hx⟩
    ·rw[e];exact A8 _ _
    ·rw[e,e'];refine Im.bind (a1T _ hx) ?_;rintro a _ ⟨ha,rfl⟩;exact Im.pure (.slice a len len ha)
   split
   ·exact Im.bind (R:=AR S) (Im.pure AR.nil) key
   ·exact Im.bind (Y2 _ (hz _ hd)) fun z z' hz=>Im.bind (R:=AR S) (Im.pure hz.cells) key
 ·exact A8 _ _
theorem b6F(t:TypeId){a a':Value}(h:VR S a a'):Im S P (VR S) (Instr.loadAt t a) (Instr.loadAt t a'):=by
 unfold Instr.loadAt;refine Im.bind (a1u h) ?_;rintro a _ ⟨ha,rfl⟩;exact a8r t ha
theorem b3Y(t:TypeId){a a' v v':Value}(h:VR S a a')(hv:VR S v v'):Im S P (fun _ _=>True) (Instr.storeAt t a v) (Instr.storeAt t a' v'):=by
 unfold Instr.storeAt;refine Im.bind (a1u h) ?_;rintro a _ ⟨ha,rfl⟩;exact b2u t ha hv
theorem a9G{a:Addr}(h:S.D a.block)(f:Field)(hz:∀i,P.info? f.type=some i->i.size≠0):Im S P (fun a a'=>S.D a.block/\a'=rA S a) (fieldPlace a f) (fieldPlace (rA S a) f):=by
 unfold fieldPlace;unfold sizeOf;simp only[bind_assoc,pure_bind];refine Im.bind (Y1 _) ?_;rintro _ i ⟨rfl,hi⟩;rw[if_neg (hz _ hi),if_neg (hz _ hi),<-a14];exact Im.pure ⟨by rw[add_block];exact h,rfl⟩
theorem b3Z(s:TypeId)(f:Nat)(hz:∀fs g i,P.underlying s=some (.struct fs)->fs[f]?=some g->P.info? g.type=some i->i.size≠0){a a':Value}(h:VR S a a'):Im S P (VR S) (Instr.fieldAt s a f) (Instr.fieldAt s a' f):=by
 unfold Instr.fieldAt;refine Im.bind (F5 s) ?_;rintro _ d ⟨rfl,hd⟩;split
 ·rename_i fs;split
  ·rename_i g hg;refine Im.bind (a1u h) ?_;rintro a _ ⟨ha,rfl⟩;refine Im.bind (a9G ha g fun i hi=>hz fs g i hd hg hi) ?_;rintro b _ ⟨hb,rfl⟩;exact Im.pure (.ptr b hb)
  ·exact A8 _ _
 ·exact A8 _ _
def a6p(t:TypeId)(k:IntKind)(n:Int)(p:Option Addr×Nat×TypeId):Sem Value:=do
 let tiny:=p.2.1<=1&&(match <-underlying t with|.array ..=>true|_=>false)
 match p.1 with
 | some a=>
  if 0<=n/\n<p.2.1 then pure (.pointer (some (a.add (n.toNat*(<-sizeOf p.2.2)))))
  else if tiny then unsupported (.noEntry "op/indexAddr.an index out of range at an array of length 0 or 1 (ledger 616)")
  else boundsPanic k n p.2.1 .index
 | none=>boundsPanic k n 0 .index
theorem a3h(hP:POK S P)(t:TypeId)(k:IntKind)(n:Int){p p':Option Addr×Nat×TypeId}(h2:p'.2=p.2)(h1:(p.1=none/\p'.1=none)\/∃x,p.1=some x/\p'.1=some (rA S x)/\S.D x.block):
 Im S P (VR S) (a6p t k n p) (a6p t k n p'):=by
 obtain⟨b,l⟩:=p;obtain⟨b',l'⟩:=p';dsimp only at h1 h2;subst h2;unfold a6p;refine Im.bind (F5 t) ?_;rintro _ d ⟨rfl,_⟩;dsimp only;rcases h1 with⟨rfl,rfl⟩|⟨a,rfl,rfl,ha⟩
 ·exact a18 _ _ _ _
 ·dsimp only;split
  ·refine Im.bind (U1 _) ?_;rintro _ s rfl;rw[<-a14];exact Im.pure (.ptr _ (by rw[add_block];exact ha))
  ·split<;>split<;>first|exact A7 _ _|exact a18 _ _ _ _
theorem b30(hP:POK S P)(t:TypeId){x x' i i':Value}(h:VR S x x')(hi:VR S i i'):Im S P (VR S) (Instr.indexAt t x i) (Instr.indexAt t x' i'):=by
 unfold Instr.indexAt;refine Im.bind (a4T hi) ?_;rintro _ ⟨k,n⟩ ⟨rfl,_⟩;dsimp only;refine Im.bind (F5 t) ?_;rintro _ d ⟨rfl,_⟩
 cases d with
 | array len elem=>
  refine Im.bind (a1u h) ?_;rintro a _ ⟨ha,rfl⟩
  exact a3h hP t k n (p:=(some a,len,elem)) (p':=(some (rA S a),len,elem)) rfl (.inr ⟨a,rfl,rfl,ha⟩)
 | slice elem=>
  cases h with
  | snil l c=>exact a3h hP t k n (p:=(none,l,elem)) (p':=(none,l,elem)) rfl (.inl ⟨rfl,rfl⟩)
  | slice a l c ha=>exact a3h hP t k n (p:=(some a,l,elem)) (p':=(some (rA S a),l,elem)) rfl (.inr ⟨a,rfl,rfl,ha⟩)
  | _=>exact A8 _ _
 | _=>exact A8 _ _
theorem a9H(hP:POK S P){x x':Value}(h:VR S x x')(y:Nat)(c:BoundsCode):Im S P (fun a b=>b=a) (Instr.sliceBound x y c) (Instr.sliceBound x' y c):=by
 unfold Instr.sliceBound;refine Im.bind (a4T h) ?_;rintro _ ⟨k,n⟩ ⟨rfl,_⟩;dsimp only;split
 ·exact Im.pure rfl
 ·exact a18 _ _ _ _
inductive OR(S:Sit):Option Value->Option Value->Prop
 | none:OR S none none
 | some {v v':Value} (h:VR S v v'):OR S (some v) (some v')
theorem a0r(hP:POK S P)(b:Bool)(n c:Nat){l l' h h' m m':Option Value}(hl:OR S l l')(hh:OR S h h')(hm:OR S m m'):Im S P (fun a b=>b=a) (Instr.sliceBounds b n c l h m) (Instr.sliceBounds b n c l' h' m'):=by
 unfold Instr.sliceBounds;cases hm<;>cases hh<;>cases hl<;>dsimp only <;>
  repeat (first|exact A8 _ _|exact Im.pure rfl|(refine Im.bind (R:=fun(a b:Nat)=>b=a) (by first|exact Im.pure rfl|exact A8 _ _|exact a9H hP (by assumption) _ _) ?_;rintro _ _ rfl))
theorem b9b(hP:POK S P)(t:TypeId){x x':Value}(hx:VR S x x'){l l' h h' m m':Option Value}(hl:OR S l l')(hh:OR S h h')(hm:OR S m m'):Im S P (VR S) (Instr.slice t x l h m) (Instr.slice t x' l' h' m'):=by
 unfold Instr.slice;refine Im.bind (F5 t) ?_;rintro _ d ⟨rfl,_⟩;have key:∀(a:Addr)(ha:S.D a.block)(elem:TypeId)(b:Bool)(n c:Nat),Im S P (VR S)
  (do let (l,h,m) <-Instr.sliceBounds b n c l h m;let size <-sizeOf elem;pure (.slice (some (if m=l then a else a.add (l*size))) (h - l) (m - l)):Sem Value)
  (do let (l,h,m) <-Instr.sliceBounds b n c l' h' m';let size <-sizeOf elem;pure (.slice (some (if m=l then rA S a else(rA S a).add (l*size))) (h - l) (m - l)):Sem Value):=by
  intro a ha elem b n c;refine Im.bind (a0r hP _ _ _ hl hh hm) ?_;rintro _ ⟨i,j,k⟩ rfl;refine Im.bind (U1 _) ?_;rintro _ s rfl;split
  ·exact Im.pure (.slice a _ _ ha)
  ·rw[<-a14];exact Im.pure (.slice _ _ _ (by rw[add_block];exact ha))
 cases d with
 | string=>
  cases hx with
  | string s=>
   dsimp only
   cases hm with
   | some _=>exact A8 _ _
   | none=>
    refine Im.bind (a0r hP _ _ _ hl hh .none) ?_;rintro _ ⟨i,j,k⟩ rfl
    exact Im.pure (.string _)
  | _=>exact A8 _ _
 | slice elem=>
  cases hx with
  | snil n c=>
   dsimp only;refine Im.bind (a0r hP _ _ _ hl hh hm) ?_;rintro _ ⟨i,j,k⟩ rfl;refine Im.bind (U1 _) ?_;rintro _ s rfl;dsimp only
   split<;>exact Im.pure (.snil _ _)
  | slice a n c ha=>
   dsimp only;refine Im.bind (a0r hP _ _ _ hl hh hm) ?_;rintro _ ⟨i,j,k⟩ rfl;refine Im.bind (U1 _) ?_;rintro _ s rfl;dsimp only;split
   ·exact Im.pure (.slice a _ _ ha)
   ·rw[Option.map_some,Option.map_some,<-a14];exact Im.pure (.slice _ _ _ (by rw[add_block];exact ha))
  | _=>exact A8 _ _
 | pointer arr=>
  refine Im.bind (b0s hx) ?_;rintro a _ ⟨ha,rfl⟩;refine Im.bind (F5 _) ?_;rintro _ d ⟨rfl,_⟩;split
  ·exact key a ha _ _ _ _
  ·exact A8 _ _
 | _=>exact A8 _ _
theorem b31(hP:POK S P)(t:TypeId){x x':Value}(hx:VR S x x'){l l' h h' m m':Option Value}(hl:OR S l l')(hh:OR S h h')(hm:OR S m m'):Im S P (VR S) (Instr.sliceAt t x l h m) (Instr.sliceAt t x' l' h' m'):=by
 unfold Instr.sliceAt;refine Im.bind (F5 t) ?_;rintro _ d ⟨rfl,_⟩;split
 ·refine Im.bind (a1u hx) ?_;rintro a _ ⟨ha,rfl⟩;refine Im.bind (a0r hP _ _ _ hl hh hm) ?_;rintro _ ⟨i,j,k⟩ rfl;refine Im.bind (U1 _) ?_;rintro _ s rfl;split
  ·exact Im.pure (.slice a _ _ ha)
  ·rw[<-a14];exact Im.pure (.slice _ _ _ (by rw[add_block];exact ha))
 ·exact b9b hP t hx hl hh hm
theorem a6q(t:TypeId)(ht:S.T t){x x':Value}(hx:VR S x x'):Im S P (VR S) (Instr.makeInterface t x) (Instr.makeInterface t x'):=by
 unfold Instr.makeInterface;refine Im.bind (F5 t) ?_;rintro _ d ⟨rfl,_⟩;split
 ·exact A8 _ _
 ·exact Im.pure (.iface t _ _ ht hx)
theorem b33(i:Nat){x x':Value}(h:VR S x x'):Im S P (VR S) (Instr.extract x i) (Instr.extract x' i):=by
 unfold Instr.extract
 cases h with
 | tuple c c' hc hc'=>
  rcases AR.get? ⟨hc,hc'⟩ i with⟨e,_⟩|⟨v,v',e,e',hv⟩
  ·dsimp only;rw[e];exact A8 _ _
  ·dsimp only;rw[e,e'];exact Im.pure hv
 | _=>exact A8 _ _
end
section
variable{S:Sit}{P:Program}
theorem a0k{α β:Type}{R:α->β->Prop}(c:Prop)[Decidable c]{s t:Sem α}{s' t':Sem β}(h:c->Im S P R s s')(k:¬c->Im S P R t t'):Im S P R (if c then s else t) (if c then s' else t'):=by
 split
 ·exact h ‹_›
 ·exact k ‹_›
theorem U5{α β β':Type}{R:β->β'->Prop}(x:Unsupported)(f:α->Sem β)(s':Sem β'):Im S P R (unsupported x >>= f) s':=Im.halt _ _
theorem a7g(op:BinOp)(k:IntKind)(x y:Int):Im S P (VR S) (Op.intArith op k x y) (Op.intArith op k x y):=by
 unfold Op.intArith;split<;>first|exact Im.pure (.int _ _)|exact A8 _ _
theorem a8t(op:BinOp)(k:IntKind)(x y:Int):Im S P (VR S) (Op.intBits op k x y) (Op.intBits op k x y):=by
 unfold Op.intBits;dsimp only;split<;>first|exact Im.pure (.int _ _)|exact A8 _ _
theorem b6G(op:BinOp)(x y:Int):Im S P (VR S) (Op.intCmp op x y) (Op.intCmp op x y):=by
 unfold Op.intCmp;split<;>first|exact Im.pure (.bool _)|exact A8 _ _
theorem b6H(op:BinOp)(k:IntKind)(x y:Int):Im S P (VR S) (Op.intDiv op k x y) (Op.intDiv op k x y):=by
 unfold Op.intDiv;split
 ·exact P6 _ trivial
 ·split<;>first|exact Im.pure (.int _ _)|exact A8 _ _
theorem b9c(op:BinOp)(k:IntKind)(x:Int)(j:IntKind)(y:Int):Im S P (VR S) (Op.shift op k x j y) (Op.shift op k x j y):=by
 unfold Op.shift;split
 ·exact P6 _ trivial
 ·dsimp only;split<;>first|exact Im.pure (.int _ _)|exact A8 _ _
theorem a3Q(op:BinOp)(x y:ByteArray):Im S P (VR S) (Op.stringOp op x y) (Op.stringOp op x y):=by
 unfold Op.stringOp;dsimp only;split
 ·split
  ·exact A7 _ _
  ·exact Im.pure (.string _)
 all_goals first|exact Im.pure (.bool _)|exact A8 _ _
theorem b9d(op:UnOp){x x':Value}(h:VR S x x'):Im S P (VR S) (Op.unary op x) (Op.unary op x'):=by
 cases h<;>cases op<;>first|exact a7g .sub _ 0 _|exact a8t .xor _ _ _|exact Im.pure (.float _ _)|exact Im.pure (.complex _ _ _)|exact Im.pure (.bool _)|exact A7 _ _|exact A8 _ _
theorem a6r(op:BinOp)(t:TypeId)(k:IntKind)(a:Int)(k':IntKind)(b:Int):Im S P (VR S) (binOp op t (.int k a) (.int k' b)) (binOp op t (.int k a) (.int k' b)):=by
 have key:∀{s s':Sem Value},Im S P (VR S) s s'->Im S P (VR S) (if k≠k' then stuck "BinOp: operands of different kinds" else s) (if k≠k' then stuck "BinOp: operands of different kinds" else s'):=fun h=>a0k _ (fun _=>A8 _ _) fun _=>h
 cases op<;>first
  | exact key (a7g _ _ _ _)
  | exact key (b6H _ _ _ _)
  | exact key (a8t _ _ _ _)
  | exact key (b6G _ _ _)
  | (unfold binOp;exact b9c _ _ _ _ _)
theorem a1J(t:TypeId){p p':Option Addr}(hp:VR S (.pointer p) (.pointer p')){y y':Value}(hy:VR S y y'):Im S P (VR S) (Builtin.unsafeAdd_ #[] t #[.pointer p,y]) (Builtin.unsafeAdd_ #[] t #[.pointer p',y']):=by
 unfold Builtin.unsafeAdd_;dsimp only;refine Im.bind (b87 hy) ?_;rintro n _ rfl
 cases hp with
 | pnil=>
  dsimp only;split
  ·exact A7 _ _
  ·split
   ·exact U5 _ _ _
   ·exact A7 _ _
 | ptr a ha=>
  dsimp only;split
  ·refine Im.bind (b0u ha) ?_;rintro o _ rfl;split
   ·exact U5 _ _ _
   ·exact Im.pure (.ptr a ha)
  ·split
   ·exact U5 _ _ _
   ·refine Im.bind (a3P ha) ?_;rintro s _ rfl;split
    ·refine Im.bind Y8 ?_;rintro p p' ⟨hp,hp'⟩;subst hp';subst hp;rw[b3W];split
     ·rename_i off _;exact Im.pure (.ptr {a with off:=off} ha)
     ·exact A7 _ _
    ·exact A7 _ _
theorem a0X(t:TypeId){x x' y y':Value}(hx:VR S x x')(hy:VR S y y'):Im S P (VR S) (movedNumber t x y) (movedNumber t x' y'):=by
 unfold movedNumber;refine Im.bind (F5 t) ?_;rintro d _ ⟨rfl,_⟩
 cases hx with
 | ptr a ha=>
  dsimp only;refine a0k _ (fun _=>U5 _ _ _) fun _=>?_;refine Im.bind (U3 ha) ?_;rintro⟨b,l⟩ _ ⟨hb,rfl⟩;refine Im.bind (a1J t (.ptr b hb) hy) ?_;intro v v' hv
  cases hv with
  | ptr c hc=>exact b2v hc _
  | _=>exact Im.pure (by constructor<;>assumption)
 | pnil=>
  dsimp only
  exact a0k _ (fun _=>U5 _ _ _) fun _=>a1J t .pnil hy
 | _=>
  dsimp only;exact a0k _ (fun _=>U5 _ _ _) fun _=>Im.halt _ _
theorem a3H(t:TypeId){p p':Option Addr}(hp:VR S (.pointer p) (.pointer p')){y y':Value}(hy:VR S y y'):Im S P (VR S) (movedPointer t (.pointer p) y) (movedPointer t (.pointer p') y'):=by
 unfold movedPointer
 cases hp with
 | pnil=>exact a1J t .pnil hy
 | ptr a ha=>
  refine Im.bind (a7f ha) ?_;intro o o' ho
  cases ho with
  | none=>exact a1J t (.ptr a ha) hy
  | some b l hb=>exact U5 _ _ _
theorem b6I{a:Addr}(ha:S.D a.block):Im S P (fun a b=>b=a) (byteOf a) (byteOf (rA S a)):=by
 unfold byteOf;rw[c2a];split
 ·exact Im.pure rfl
 ·refine Im.bind Y8 ?_;rintro p p' ⟨hp,hp'⟩;subst hp';subst hp;refine Im.bind (b6E ha) ?_;intro _ _ _;refine Im.bind (a3P ha) ?_;rintro _ s rfl;rw[b3W];split
  ·dsimp only;split
   ·exact Im.pure rfl
   ·split
    ·exact Im.pure rfl
    ·exact A8 _ _
  ·exact A8 _ _
structure PGK(S:Sit)(P:Program):Prop where
 high:∀b,S.D b->P.globals.size<=b
 inj:∀a b,S.D a->S.D b->S.ren a=S.ren b->a=b
theorem b34(hP:PGK S P)(op:BinOp){a b a' b':Addr}(ha:S.D a.block):Im S P (VR S) (Op.addrCmp op a b) (Op.addrCmp op a' b'):=by
 unfold Op.addrCmp Op.twoPlaces;have e:(a.block != b.block||decide (a.block ≥ P.globals.size))=true:=by simp[hP.high _ ha]
 refine Im.bind (R:=fun _ _=>False) (Im.bind Y8 ?_) fun _ _ h=>h.elim;rintro p p' ⟨hp,hp'⟩;subst hp';subst hp;rw[if_pos e];exact U5 _ _ _
theorem a8u(k:IntKind){a:Addr}(ha:S.D a.block)(n:Int):Im S P (VR S) (Op.addrMod k a n) (Op.addrMod k (rA S a) n):=by
 unfold Op.addrMod;refine Im.bind (a3P ha) ?_;rintro s _ rfl;split
 ·refine Im.bind (Y1 _) ?_;rintro i _ ⟨rfl,_⟩;dsimp only;refine a0k _ (fun _=>U5 _ _ _) fun _=>?_;refine Im.bind (b6I ha) ?_;rintro n _ rfl;exact Im.pure (.int _ _)
 ·exact A7 _ _
def c2c:BinOp->Bool
 | .add|.lss|.gtr|.and|.or|.xor|.mul|.shl|.shr=>true
 | _=>false
theorem b9e(hP:PGK S P)(op:BinOp)(ho:c2c op=true)(t:TypeId){x x' y y':Value}(hx:VR S x x')(hy:VR S y y'):Im S P (VR S) (binOp op t x y) (binOp op t x' y'):=by
 have hx0:=hx;have hy0:=hy;have hadd:∀{a b u u':Value}{c:Prop}[Decidable c]{r r':Sem Value},Im S P (VR S) r r'->(Im S P (VR S) (movedNumber t a u) (movedNumber t b u'))->Im S P (VR S) (if c then r else movedNumber t a u) (if c then r' else movedNumber t b u'):=fun h k=>a0k _ (fun _=>h) fun _=>k
 cases hx with
 | int k a=>
  cases hy with
  | int k' b=>exact a6r _ _ _ _ _ _
  | ptr b hb=>
   cases op<;>first
    | exact absurd ho (by decide)
    | (unfold binOp;dsimp only;first
        | exact a0X t hy0 hx0
        | exact A7 _ _
        | (refine Im.bind (U3 hb) ?_;rintro p _ ⟨h1,rfl⟩;exact a8u _ h1 _))
  | _=>cases op<;>first
   | exact absurd ho (by decide)
   | (unfold binOp;dsimp only;first
       | exact a0X t hy0 hx0
       | exact A7 _ _
       | exact A8 _ _)
 | string s=>
  cases hy with
  | string u=>cases op<;>first|exact absurd ho (by decide)|(unfold binOp;dsimp only;exact a3Q _ _ _)
  | _=>cases op<;>first
   | exact absurd ho (by decide)
   | (unfold binOp;dsimp only;first|exact A7 _ _|exact A8 _ _)
 | ptr a ha=>
  cases hy with
  | int k' b=>
   cases op<;>first
    | exact absurd ho (by decide)
    | (unfold binOp;dsimp only;first
        | exact A7 _ _
        | (refine Im.bind (U3 ha) ?_;rintro p _ ⟨h1,rfl⟩;exact a8u _ h1 _)
        | (refine Im.bind (F5 t) ?_
           rintro d _ ⟨rfl,_⟩
           exact hadd (a3H t hx0 hy0) (a0X t hx0 hy0)))
  | ptr b hb=>
   cases op<;>first
    | exact absurd ho (by decide)
    | (unfold binOp;dsimp only;first
        | exact A7 _ _
        | (refine Im.bind (U3 ha) ?_;rintro p _ ⟨h1,rfl⟩
           refine Im.bind (U3 hb) ?_;rintro q _ ⟨h2,rfl⟩
           exact b34 hP _ h1))
  | _=>cases op<;>first
   | exact absurd ho (by decide)
   | (unfold binOp;dsimp only;first|exact A7 _ _|exact A8 _ _)
 | pnil=>
  cases hy with
  | int k' b=>
   cases op<;>first
    | exact absurd ho (by decide)
    | (unfold binOp;dsimp only;first
        | exact A7 _ _
        | (refine Im.bind (F5 t) ?_
           rintro d _ ⟨rfl,_⟩
           exact hadd (a3H t hx0 hy0) (a0X t hx0 hy0)))
  | _=>cases op<;>first
   | exact absurd ho (by decide)
   | (unfold binOp;dsimp only;first|exact A7 _ _|exact A8 _ _)
 | _=>
  cases hy<;>cases op<;>first
   | exact absurd ho (by decide)
   | (unfold binOp;dsimp only;first|exact A7 _ _|exact A8 _ _)
end
end Go.Bi
