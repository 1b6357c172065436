/- A part of what the last file proves. -/
import Derived.Test.YtgpbhjjajpbeeaaGreatDoorR23
set_option linter.all false
set_option maxRecDepth 100000
set_option maxHeartbeats 1600000
namespace Go.Proofs.YtgpbhjjajpbeeaaGreatDoor
section
open Go.RowKit Go.Lib Go.Maps Dk Pl
open Go.Conc Go.Mw
open Zn (tp Full WPs VP Zf Le)
open To
set_option linter.unusedSectionVars false
def mX(k:Tmp):Bool:=!(k==1||k==28||k==32||k==61)
noncomputable def mg0:Array Oper:=Code.ops (mgP 0)
theorem c3x:mgP 0=.region 0 mg0 false:=by kernel_rfl
theorem c3y:mgP 3=.seq (.region 10 (Code.ops c4Q) false) (.cond (.tmp 63) (.seq (.region 11 (Code.ops (Code.fst (match Code.snd (mgP 3) with|.cond _ x _=>x|c=>c))) false) .ret) .skip):=by kernel_rfl
theorem b9p:([mgP 1,mgV].all fun c=>Zn.cOK zb c&&Zn.useB mX c)=true:=by kernel_rfl
theorem b5y{c:Code}(h:c∈[mgP 1,mgV]):Zn.CodeP zone c/\Zn.CodeU (fun k=>mX k=true) c:=by
 have:=List.all_eq_true.1 b9p c h;simp only[Bool.and_eq_true] at this;exact⟨Zn.cOK.sound this.1,Zn.useB.sound this.2⟩
structure Ft(ids vs:List Int)(k:Nat)(fs:List Int):Prop where
 len:fs.length=ids.length
 one:∀v∈fs,v=0\/v=1
 is:∀y(i:Nat),idx ids y=(i:Int)->(fs.getD i 0=1<->(vs.take k).contains y=true)
theorem b1j{l:List Int}{x:Int}{i:Nat}(h:idx l x=(i:Int)):i<l.length/\l.getD i 0=x/\l.contains x=true:=by
 unfold idx at h;split at h
 ·rename_i hc;have hm:=hc;rw[List.contains_iff_mem] at hm;have e:l.idxOf x=i:=by omega
  have hl:=List.idxOf_lt_length_iff.2 hm;rw[e] at hl;refine⟨hl,?_,hc⟩;rw[List.getD_eq_getElem?_getD,List.getElem?_eq_getElem hl];have:=List.getElem_idxOf (xs:=l) (x:=x) (by rw[e];exact hl);simp only[e] at this;simpa using this
 ·omega
theorem Ft.start(ids vs:List Int):Ft ids vs 0 (List.replicate ids.length 0):=
 ⟨by simp,fun v hv=>.inl (List.eq_of_mem_replicate hv),fun y i h=>by
  obtain⟨h1,-⟩:=b1j h;rw[List.getD_eq_getElem?_getD,List.getElem?_eq_getElem (by simpa using h1)];simp⟩
theorem Ft.next{ids vs fs:List Int}{k i:Nat}(h:Ft ids vs k fs)(hk:k<vs.length)(hi:idx ids (vs.getD k 0)=(i:Int))(h0:fs.getD i 0=0):Ft ids vs (k+1) (fs.set i 1)/\b2Y ids vs k=true:=by
 obtain⟨g1,g2,g3⟩:=b1j hi;have hnot:(vs.take k).contains (vs.getD k 0)=false:=by
  cases hc:(vs.take k).contains (vs.getD k 0) with
  | false=>rfl
  | true=>
   have:=(h.is _ i hi).2 hc;omega
 refine⟨⟨by rw[List.length_set];exact h.len,fun v hv=>?_,fun y j hj=>?_⟩,?_⟩
 ·rcases List.mem_or_eq_of_mem_set hv with h'|h'
  ·exact h.one v h'
  ·exact .inr h'
 ·obtain⟨j1,j2,j3⟩:=b1j hj;rw[takeD_snoc hk,a1q];by_cases e:j=i
  ·subst e;have:vs.getD k 0=y:=g2.symm.trans j2;rw[List.getD_eq_getElem?_getD,List.getElem?_set_self (by rw[h.len];exact j1),this];simp
  ·have hne:vs.getD k 0≠y:=by
    intro he;rw[he] at hi;rw[hi] at hj;omega
   rw[List.getD_eq_getElem?_getD,List.getElem?_set_ne (Ne.symm e),<-List.getD_eq_getElem?_getD,h.is y j hj,Bool.or_eq_true];exact⟨.inl,fun h=>h.elim id fun h=>absurd (beq_iff_eq.1 h) hne⟩
 ·unfold b2Y;rw[g3,hnot];rfl
section
variable[Go.ConcR.Payload][To.Lo]{Sh:Nat->Prop}{w:World}{Q:Exit->Act->World->(Nat->Prop)->Prop}{F:Nat->Prop}{a:Nat}
def c3z(Sh:Nat->Prop)(w:World)(v:Value)(w':World)(Sh':Nat->Prop):Prop:=Sh'=Sh/\WPs zone Sh w'/\v=.tuple #[.pointer none,.iface 37 (.int .i64 8)]/\Chh (fun _=>False) w w'
structure MgI(Sh:Nat->Prop)(sb mb fb B n:Nat)(va:Option Addr)(vc:Nat)(ids vs:List Int)(w:World)(k:Nat)(T:Array Value)(w':World):Prop where
 size:T.size=130
 t0:T[0]?=some (y8 sb)
 t1:T[1]?=some (.slice va n vc)
 t6:T[6]?=some (y8 mb)
 t28:T[28]?=some (.slice va n vc)
 t29:T[29]?=some (.int .i64 n)
 t30:T[30]?=some (.int .i64 k)
 le:k<=n
 mg:∃fs,a9m w' B mb fb sb fs/\Ft ids vs k fs
 all:∀j,j<k->b2Y ids vs j=true
 iv:Iv zone Sh (fun k=>mX k=true) ⟨T,[]⟩ w'
 chh:Chh (fun _=>False) w w'
theorem b9q{ρ:Operand->Value}{x:Operand}(h:ρ x=.int .i64 8):Runs Tryz.prog ρ (.makeInterface 37 x) (.iface 37 (.int .i64 8)):=fun o ho w=>by
 constructor<;>simp[go_sem,execOp,ho,h,Instr.makeInterface,Tryz.underlying37]
theorem a9m.to_tp{B mb fb sb:Nat}{fs:List Int}{τ:Nat->Question->Nat}{p:Nat}(h:a9m w B mb fb sb fs):a9m (tp w τ p) B mb fb sb fs:=⟨h.box,h.row,h.new⟩
theorem a9m.of_tp{B mb fb sb:Nat}{fs:List Int}{τ:Nat->Question->Nat}{p:Nat}(h:a9m (tp w τ p) B mb fb sb fs):a9m w B mb fb sb fs:=⟨h.box,h.row,h.new⟩
theorem a2s{T T':Array Value}{d:Nat}{v:Value}(hI:Iv zone Sh (fun k=>mX k=true) ⟨T,[]⟩ w)(g:T'[d]?=some v)(k:∀k,k≠d->T'[k]?=T[k]?)(hv:mX d=true->VP (Zf zone Sh w.heap.size) v):Iv zone Sh (fun k=>mX k=true) ⟨T',[]⟩ w:=
 hI.keep fun q hq=>by
  by_cases e:q=d
  ·subst e;exact .inr ⟨v,g,hv hq⟩
  ·exact .inl (k q e)
theorem b9r{sb mb fb B n vc gen:Nat}{va:Option Addr}{ids vs:List Int}{bss:List (List UInt8)}{w':World}{k:Nat}{T:Array Value}(h:MgI Sh sb mb fb B n va vc ids vs w k T w')(hst:b1e w sb a gen ids bss)(hsl:sb<w.heap.size)
 (hn:vs.length=n)(hids:ids.length<=60)(hn3:n<=300)(hB:w.heap.size<=B)(hvs:∀j,j<n->∃ad,va=some ad/\w.cell? (ad.add j)=some (.int .i64 (vs.getD j 0))/\ad.block<Lo.n/\ad.block<w.heap.size)
 (hgo:∀T' w'',MgI Sh sb mb fb B n va vc ids vs w (k+1) T' w''->Q .normal ⟨T',[]⟩ w'' Sh)(hend:k=n->∀T',T'.size=130->T'[1]?=some (.slice va n vc)->Iv zone Sh (fun k=>mX k=true) ⟨T',[]⟩ w'->Q (.exit 0) ⟨T',[]⟩ w' Sh)
 (hno:∀T' w'',T'[4]?=some (.pointer none)->T'[5]?=some (.iface 37 (.int .i64 8))->Chh (fun _=>False) w w''->WPs zone Sh w''->Q .ret ⟨T',[]⟩ w'' Sh):
 wpT Tryz.prog 81 mgL Q ⟨T,[]⟩ w' Sh:=by
 rw[c3w];refine H8 (O4 ?_);rw[show List.range (Code.ops mg3).size=[0] by kernel_rfl];refine G8 (d:=31) (op:=.binOp .lss 3 (.tmp 30) (.tmp 29) 3) (g:=none) (.of (by kernel_rfl)) wn0 h.size (by decide) (b8O (D6 h.t30) (D6 h.t29)) fun T1 s1 g1 k1=>U4 ?_;have hI1:=a2s h.iv g1 k1 fun _=>.bool _;show wpT _ _ _ _ _ _ _;refine H8 (a4e (D6 g1) ?_);by_cases hlt:k<n
 ·rw[decide_eq_true (by omega:(k:Int)<(n:Int))];refine b3d ?_;show wpT _ _ _ _ _ _ _;obtain⟨ad,e1,e2,e3,e4⟩:=hvs k hlt;have eb:(ad.add k).block=ad.block:=by unfold Addr.add;split<;>rfl
  have e2':w'.cell? (ad.add k)=some (.int .i64 (vs.getD k 0)):=(World.cell?_of_block (h.chh.block _ (by rw[eb];exact e4) fun h=>h)).trans e2;subst e1;refine H8 (b0A (H8 (O4 ?_)));rw[show List.range (Code.ops mg4).size=[0,1,2] by kernel_rfl];refine G8 (d:=32) (op:=.indexAddr 69 (.tmp 28) (.tmp 30)) (g:=none) (.of (by kernel_rfl)) wn0 s1 (by decide) (b8R hlt (D6 ((k1 28 (by decide)).trans h.t28)) (D6 ((k1 30 (by decide)).trans h.t30))) fun T2 s2 g2 k2=>?_;have hI2:=a2s hI1 g2 k2 fun h=>by cases h
  refine b7B (d:=33) (t:=3) (x:=.tmp 32) (.of (by kernel_rfl)) s2 (by decide) (D6 g2) (by rw[eb];exact e3) e2' (fun o ho w hw=>c1m (D6 g2) o ho w hw) fun T3 s3 g3 k3=>?_;have hI3:=a2s hI2 g3 k3 fun _=>.int _ _;refine G8 (d:=8) (op:=.assign (.tmp 33)) (g:=none) (.of (by kernel_rfl)) wn0 s3 (by decide) (O6 (D6 g3)) fun T4 s4 g4 k4=>U4 ?_;have hI4:=a2s hI3 g4 k4 fun _=>.int _ _;have kk:∀q,q=0\/q=1\/q=6\/q=28\/q=29\/q=30->T4[q]?=T[q]?:=fun q hq=>(k4 q (by omega)).trans ((k3 q (by omega)).trans ((k2 q (by omega)).trans (k1 q (by omega))));show wpT _ _ _ _ _ _ _;obtain⟨fs,hm,hf⟩:=h.mg;obtain⟨ia,ic,Cb,r,vv,hb,hii,-,-,-⟩:=hst;have hb':o7 w' sb 138 #[y8 a,.int .u64 gen,.slice ia ids.length ic,.slice (some ⟨Cb,0,none⟩) ids.length ids.length,.map (some r),.int .i64 vv]:=(h.chh.block sb hsl fun h=>h).trans hb;have hii':Ints w' (.slice ia ids.length ic) ids:=by
   refine Dep.slice hii w' fun b⟨hx,a',n',c',hv,hbb⟩=>h.chh.block b ?_ fun h=>h;obtain⟨a2,c2,e,h1,h2,h3⟩:=hii;injection hv with hv1 hv2 hv3;injection e with q1 q2 q3;obtain⟨b2,hb2,hc2⟩:=h3 hx;rw[<-q1,hv1] at hb2;injection hb2 with hb2;subst hb2;have:ids≠[]:=fun he=>hx (by rw[he];rfl);have hpos:0<(ids.map (Value.int .i64)).length:=by rw[List.length_map];exact List.length_pos_iff.2 this
   have hlt:=World.block_lt_of_cell? w _ (hc2 0 _ (List.getElem?_eq_getElem hpos));have e0:(a'.add 0).block=a'.block:=by unfold Addr.add;split<;>rfl
   rw[e0,hbb] at hlt;exact hlt
  have hc:=b5y (c:=mgV) (by simp);refine piece (fun w=>QMV T4 B mb fb sb fs (idx ids (vs.getD k 0)) w) hI4 hc.1 hc.2 (fun τ p=>c5y s4 ((kk 0 (by omega)).trans h.t0) ((kk 6 (by omega)).trans h.t6) g4 hm.to_tp hb' hii' hids hf.len hf.one) ?_;rintro e ⟨T5,d5⟩ w5 τ p τ' p' q;cases e<;>first|exact q.elim|skip
  ·obtain⟨i,q1,q2,q3,q4,q5,q6,q7,q8⟩:=q;dsimp only at q4 q5 q6;subst q4;refine⟨.inl rfl,fun hI5 _=>?_⟩;obtain⟨f1,f2⟩:=hf.next (by omega) q1 q3;have hfb:=hm.new.2;have c5:Chh (fun _=>False) w w5:=⟨q8.os.trans h.chh.os,q8.output.trans h.chh.output,by have:=q8.size;have:=h.chh.size;simp at *;omega,fun b hb hf=>(q8.block b (by omega)).trans (h.chh.block b hb hf)⟩;show wpT _ _ _ _ _ _ _;refine O4 ?_;rw[show List.range (Code.ops mg9).size=[0,1] by kernel_rfl];refine G8 (d:=60) (op:=.binOp .add 3 (.tmp 30) (.const (.int .i64 1)) 3) (g:=none) (.of (by kernel_rfl)) wn0 q5 (by decide) (b8Q (i:=k) (by omega) (D6 ((q6 30 (by omega)).trans ((kk 30 (by omega)).trans h.t30))) rfl) fun T6 s6 g6 k6=>?_;have hI6:=a2s hI5 g6 k6 fun _=>.int _ _;refine G8 (d:=30) (op:=.move (.tmp 60)) (g:=none) (.of (by kernel_rfl)) wn0 s6 (by decide) (Q7 (D6 g6)) fun T7 s7 g7 k7=>U4 ?_;have hI7:=a2s hI6 g7 k7 fun _=>.int _ _;have kq:∀q,q=0\/q=1\/q=6\/q=28\/q=29->T7[q]?=T[q]?:=fun q hq=>(k7 q (by omega)).trans ((k6 q (by omega)).trans ((q6 q (by omega)).trans (kk q (by omega))));exact hgo T7 w5 ⟨s7,(kq 0 (by omega)).trans h.t0,(kq 1 (by omega)).trans h.t1,(kq 6 (by omega)).trans h.t6,(kq 28 (by omega)).trans h.t28,(kq 29 (by omega)).trans h.t29,g7,by omega,⟨_,q7.of_tp,f1⟩,fun j hj=>by
    rcases Nat.lt_or_ge j k with hjk|hjk
    ·exact h.all j hjk
    ·obtain rfl:j=k:=by omega
     exact f2,hI7,c5⟩
  ·obtain⟨-,q2,q3,q4,q5⟩:=q;dsimp only at q2 q3 q4;subst q2;exact⟨.inr rfl,fun hI5 _=>hno T5 w5 q3 q4 (h.chh.trans (.eq q5)) hI5.W⟩
 ·rw[decide_eq_false (by omega:¬(k:Int)<(n:Int))];refine c0r ?_;exact hend (by have:=h.le;omega) T1 s1 ((k1 1 (by decide)).trans h.t1) hI1
theorem c1C{sb vc gen:Nat}{va:Option Addr}{ids vs:List Int}{bss:List (List UInt8)}(W:WPs zone Sh w)(hv:VP (Zf zone Sh w.heap.size) (y8 sb))(hst:b1e w sb a gen ids bss)(hids:ids.length<=60)(hn3:vs.length<=300)
 (hvs:∀j,j<vs.length->∃ad,va=some ad/\w.cell? (ad.add j)=some (.int .i64 (vs.getD j 0))/\ad.block<Lo.n/\ad.block<w.heap.size)(hck:a0g ids vs=false):
 a8Q Tryz.prog 81 #[y8 sb,.slice va vs.length vc] w Sh (c3z Sh w):=by
 refine⟨Tryz.f81,mgC 0,Tryz.func81,by kernel_rfl,by kernel_rfl,?_⟩;have en:Tryz.f81.ntmps=130:=by kernel_rfl
 rw[en,show(#[y8 sb,.slice va vs.length vc]:Array Value).size=2 from rfl];have hT:(#[y8 sb,.slice va vs.length vc]++Array.replicate (130 - 2) undef).size=130:=by simp
 have h0:(#[y8 sb,.slice va vs.length vc]++Array.replicate (130 - 2) undef)[0]?=some (y8 sb):=by rw[Array.getElem?_append_left (by simp)];rfl
 have h1:(#[y8 sb,.slice va vs.length vc]++Array.replicate (130 - 2) undef)[1]?=some (.slice va vs.length vc):=by rw[Array.getElem?_append_left (by simp)];rfl
 have hr:∀k,2<=k->(#[y8 sb,.slice va vs.length vc]++Array.replicate (130 - 2) undef).getD k undef=undef:=by
  intro k hk;rw[Array.getD_eq_getD_getElem?,Array.getElem?_append_right (by simpa using hk),Array.getElem?_replicate];split<;>rfl
 generalize #[y8 sb,.slice va vs.length vc]++Array.replicate (130 - 2) undef=T at hT h0 h1 hr⊢;have hI:Iv zone Sh (fun k=>mX k=true) ⟨T,[]⟩ w:=by
  refine⟨fun t ht=>?_,fun d hd=>(by cases hd),W⟩;show VP _ (T.getD t undef)
  match t,ht with
  | 0,_=>rw[G9 h0];exact hv
  | 1,h=>cases h
  | t+2,_=>rw[hr _ (Nat.le_add_left 2 t)];exact Zn.vp_undef
 obtain⟨ia,ic,Cb,r,vv,hb,hii,-,-,-⟩:=id hst;rw[c5u,c3x];refine H8 (O4 ?_);rw[show List.range mg0.size=[0,1] by kernel_rfl];refine G8 (d:=4) (op:=.assign (.const (.pointer none))) (g:=none) (v:=.pointer none) (.of (by kernel_rfl)) wn0 hT (by decide) (O6 rfl) fun T1 s1 g1 k1=>?_;have hI1:=a2s hI g1 k1 fun _=>.pnil;refine G8 (d:=5) (op:=.assign (.const .nilIface)) (g:=none) (v:=.nilIface) (.of (by kernel_rfl)) wn0 s1 (by decide) (O6 rfl) fun T2 s2 g2 k2=>U4 ?_;have hI2:=a2s hI1 g2 k2 fun _=>.nilIface;have a0:T2[0]?=some (y8 sb):=(k2 0 (by decide)).trans ((k1 0 (by decide)).trans h0);have a1:T2[1]?=some (.slice va vs.length vc):=(k2 1 (by decide)).trans ((k1 1 (by decide)).trans h1);show wpT _ _ _ _ _ _ _;rw[c5v];have hc:=b5y (c:=mgP 1) (by simp);refine H8 (piece (fun w=>QM1 T2 sb ids.length w) hI2 hc.1 hc.2 (fun τ p=>c4P s2 a0 hb hids) ?_);rintro e ⟨T3,d3⟩ w3 τ p τ' p' q;cases e<;>first|exact q.elim|skip
 obtain⟨q1,q2,mb,fb,q3,q4,q5⟩:=q;dsimp only at q1 q2 q3;subst q1;have c3:Chh (fun _=>False) w w3:=.ext q5;refine⟨.inl rfl,fun hI3 _=>?_⟩;have s3:=q2.size.trans s2;have b1:T3[1]?=some (.slice va vs.length vc):=(q2.keep 1 rfl).trans a1;show wpT _ _ _ _ _ _ _;rw[c5w,c3v];refine H8 (H8 (O4 ?_));rw[show List.range (Code.ops mg2).size=[0,1,2] by kernel_rfl];refine G8 (d:=28) (op:=.move (.tmp 1)) (g:=none) (.of (by kernel_rfl)) wn0 s3 (by decide) (Q7 (D6 b1)) fun T4 s4 g4 k4=>?_;have hI4:=a2s hI3 g4 k4 fun h=>by cases h
 refine G8 (d:=29) (op:=.call {callee:=.builtin .len,args:=#[.tmp 28],argTypes:=#[69]}) (g:=none) (.of (by kernel_rfl)) wn0 s4 (by decide) (b0b (D6 g4)) fun T5 s5 g5 k5=>?_;have hI5:=a2s hI4 g5 k5 fun _=>.int _ _;refine G8 (d:=30) (op:=.move (.const (.int .i64 0))) (g:=none) (v:=.int .i64 (0:Nat)) (.of (by kernel_rfl)) wn0 s5 (by decide) (Q7 rfl) fun T6 s6 g6 k6=>U4 ?_;have hI6:=a2s hI5 g6 k6 fun _=>.int _ _;have kk:∀q,q=0\/q=1\/q=6->T6[q]?=T3[q]?:=fun q hq=>(k6 q (by omega)).trans ((k5 q (by omega)).trans (k4 q (by omega)));have hno:∀(T':Array Value)(w'':World),T'[4]?=some (.pointer none)->T'[5]?=some (.iface 37 (.int .i64 8))->Chh (fun _=>False) w w''->WPs zone Sh w''->bodyT Tryz.prog Tryz.f81 (c3z Sh w) .ret ⟨T',[]⟩ w'' Sh:=fun T' w'' e4 e5 c hW=>
  ⟨rfl,_,resultsC_tmp2 rfl T',rfl,hW,by rw[G9 e4,G9 e5],c⟩
 show wpT _ _ _ _ _ _ _;refine b0A (c0s (N:=vs.length) (fun m aa ww SS=>SS=Sh/\∃(k:Nat)(T':Array Value),aa=⟨T',[]⟩/\m+k=vs.length/\MgI Sh sb mb fb w.heap.size vs.length va vc ids vs w k T' ww) ⟨rfl,0,T6,rfl,rfl,s6,(kk 0 (by omega)).trans ((q2.keep 0 rfl).trans a0),(kk 1 (by omega)).trans b1,(kk 6 (by omega)).trans q3,(k6 28 (by decide)).trans ((k5 28 (by decide)).trans g4),(k6 29 (by decide)).trans g5,g6,Nat.zero_le _,⟨_,q4.of_tp,Ft.start ids vs⟩,fun j hj=>absurd hj (by omega),hI6,c3⟩ ?_);rintro m aa ww SS ⟨rfl,k,T7,rfl,hmk,hM⟩;have hsl:sb<w.heap.size:=hb.lt;refine b9r (gen:=gen) (bss:=bss) (a:=a) hM hst hsl rfl hids hn3 (Nat.le_refl _) hvs (fun T' w'' h=>⟨m - 1,by have:=hM.le;have:=h.le;omega,rfl,k+1,T',rfl,by have:=h.le;omega,h⟩) (fun hkn T' t1' t2' hI'=>?_) fun T' w'' e4 e5 c hW=>hno T' w'' e4 e5 c hW
 ·
  simp only[a7h,b1J,if_true];rw[c5x,c3y];refine H8 (H8 (O4 ?_));rw[show List.range (Code.ops c4Q).size=[0,1,2] by kernel_rfl];refine G8 (d:=61) (op:=.move (.tmp 1)) (g:=none) (.of (by kernel_rfl)) wn0 t1' (by decide) (Q7 (D6 t2')) fun T8 s8 g8 k8=>?_;have hI8:=a2s hI' g8 k8 fun h=>by cases h
  refine G8 (d:=62) (op:=.call {callee:=.builtin .len,args:=#[.tmp 61],argTypes:=#[69]}) (g:=none) (.of (by kernel_rfl)) wn0 s8 (by decide) (b0b (D6 g8)) fun T9 s9 g9 k9=>?_;have hI9:=a2s hI8 g9 k9 fun _=>.int _ _;refine G8 (d:=63) (op:=.binOp .eql 3 (.tmp 62) (.const (.int .i64 0)) 3) (g:=none) (.of (by kernel_rfl)) wn0 s9 (by decide) (b8P (b:=0) (D6 g9) rfl) fun T10 s10 g10 k10=>U4 ?_;have hI10:=a2s hI9 g10 k10 fun _=>.bool _;by_cases h0:vs.length=0
  ·show wpT _ _ _ _ _ _ _;refine a4e (D6 g10) ?_;rw[decide_eq_true (by omega:((vs.length:Nat):Int)=0)];refine H8 (O4 ?_);rw[show List.range (Code.ops (Code.fst (match Code.snd (mgP 3) with|.cond _ x _=>x|c=>c))).size=[0,1,2] by kernel_rfl];refine G8 (d:=64) (op:=.makeInterface 37 (.const (.int .i64 8))) (g:=none) (.of (by kernel_rfl)) wn0 s10 (by decide) (b9q rfl) fun T11 s11 g11 k11=>?_;refine G8 (d:=4) (op:=.assign (.const (.pointer none))) (g:=none) (v:=.pointer none) (.of (by kernel_rfl)) wn0 s11 (by decide) (O6 rfl) fun T12 s12 g12 k12=>?_;refine G8 (d:=5) (op:=.assign (.tmp 64)) (g:=none) (.of (by kernel_rfl)) wn0 s12 (by decide) (O6 (D6 ((k12 64 (by decide)).trans g11))) fun T13 s13 g13 k13=>U4 ?_;show wpT _ _ _ _ _ _ _;exact b1K (hno T13 ww ((k13 4 (by decide)).trans g12) g13 hM.chh hI'.W)
  ·exfalso;have:a0g ids vs=true:=by
    unfold a0g;rw[Bool.and_eq_true,List.all_eq_true];exact⟨decide_eq_true (by omega),fun j hj=>hM.all j (by have:=List.mem_range.1 hj;omega)⟩
   rw[hck] at this;cases this
end
end
section
open Go.RowKit Go.Lib Go.Maps Dk Pl
open Go.Conc Go.Mw
open Zn (tp Full WPs VP Zf Le)
open To
set_option linter.unusedSectionVars false
def Code.thn:Code->Code|.cond _ x _=>x|c=>c
noncomputable def mrC(n:Nat):Code:=Code.behind n (Tryz.f38.body.getD .skip)
noncomputable def mrP(n:Nat):Code:=Code.head (mrC n)
noncomputable def mr3:Array Oper:=Code.ops (Code.fst (Code.thn (Code.snd (mrP 2))))
noncomputable def mr6:Array Oper:=Code.ops (Code.fst (Code.thn (Code.snd (mrP 4))))
theorem c5z:mrC 0=.seq (.region 0 (Code.ops (mrP 0)) false) (mrC 1):=by kernel_rfl
theorem c5A:mrC 1=.seq (.region 1 (Code.ops (mrP 1)) false) (mrC 2):=by kernel_rfl
theorem c5B:mrC 2=.seq (.seq (.region 2 (Code.ops (Code.fst (mrP 2))) false) (.cond (.tmp 15) (.seq (.region 3 mr3 false) .ret) .skip)) (mrC 3):=by kernel_rfl
theorem c5C:mrC 3=.seq (.region 4 (Code.ops (mrP 3)) false) (mrC 4):=by kernel_rfl
theorem c5E:mrC 4=.seq (.seq (.region 5 (Code.ops (Code.fst (mrP 4))) false) (.cond (.tmp 24) (.seq (.region 6 mr6 false) .ret) .skip)) (mrC 5):=by kernel_rfl
section
variable{ρ:Operand->Value}{x:Operand}
theorem c1E(t:TypeId)(v:Value)(w:World):Sem.events Tryz.prog (binOp .neq 34 (.iface t v) .nilIface) w #[]=#[]:=by kernel_rfl
theorem c3A(w:World):Sem.events Tryz.prog (binOp .neq 34 .nilIface .nilIface) w #[]=#[]:=by kernel_rfl
theorem b0k(w:World):Sem.run Tryz.prog (eqGuard .neq 34 x (.const .nilIface) .nilIface .nilIface) w=.ok () w/\Sem.events Tryz.prog (eqGuard .neq 34 x (.const .nilIface) .nilIface .nilIface) w #[]=#[]:=by
 constructor<;>simp[eqGuard,go_sem]
theorem b9s(hx:ρ x=.nilIface)(hy:ρ (.const .nilIface)=.nilIface):Runs Tryz.prog ρ (.binOp .neq 34 x (.const .nilIface) 34) (.bool false):=fun o ho w=>by
 have h1:=fun w=>(b0k (x:=x) w).1;have h2:=fun w=>(b0k (x:=x) w).2;have h3:=c3A;constructor<;>simp[go_sem,execOp,ho,hx,hy,h1,h2,h3]
theorem b0l{t:TypeId}{v:Value}(hx:ρ x=.iface t v)(hy:ρ (.const .nilIface)=.nilIface):Runs Tryz.prog ρ (.binOp .neq 34 x (.const .nilIface) 34) (.bool true):=fun o ho w=>by
 have h3:=c1E t v;constructor<;>simp[go_sem,execOp,ho,hx,hy,h3]
end
section
variable[Go.ConcR.Payload][To.Lo]{Sh F:Nat->Prop}{a:Nat}{D:Dk.D}{w:World}
structure c4R(F Sh:Nat->Prop)(a:Nat)(D:Dk.D)(f:Int)(w:World)(y:Value)(w':World)(Sh':Nat->Prop):Prop where
 W:WPs zone Sh' w'
 old:∀b,b<w.heap.size->Sh' b->Sh b
 vp:VP (Zf zone Sh' w'.heap.size) y
 chh:Chh F w w'
 disk:A8 w' F a D
 err:∃er,Held w' F (fun W=>ErrAt W y er)/\er.code=f
theorem b9t{va:Option Addr}{vc:Nat}{vs:List Int}(W:WPs zone Sh w)(hgl:Tryz.prog.globals.size<=w.heap.size)(hv:VP (Zf zone Sh w.heap.size) (y8 a))(hD:A8 w F a D)(hc:D.Calm)(hfit:D.Fit)(hl:Held w F LaidP)(hn3:vs.length<=300)
 (hvs:∀j,j<vs.length->∃ad,va=some ad/\w.cell? (ad.add j)=some (.int .i64 (vs.getD j 0))/\ad.block<Lo.n/\¬F ad.block)(f:Int)
 (hno:((I7 D.files).1=none/\f=(I7 D.files).2.1)\/(∃gen ids bss,I7 D.files=(some (gen,ids,bss),0,[])/\a0g ids vs=false/\f=8)):
 a8Q Tryz.prog 38 #[y8 a,.slice va vs.length vc] w Sh (c4R F Sh a D f w):=by
 refine⟨Tryz.f38,mrC 0,Tryz.func38,by kernel_rfl,by kernel_rfl,?_⟩;have en:Tryz.f38.ntmps=33:=by kernel_rfl
 rw[en,show(#[y8 a,.slice va vs.length vc]:Array Value).size=2 from rfl];have hT:(#[y8 a,.slice va vs.length vc]++Array.replicate (33 - 2) undef).size=33:=by simp
 have h0:(#[y8 a,.slice va vs.length vc]++Array.replicate (33 - 2) undef)[0]?=some (y8 a):=by rw[Array.getElem?_append_left (by simp)];rfl
 have h1:(#[y8 a,.slice va vs.length vc]++Array.replicate (33 - 2) undef)[1]?=some (.slice va vs.length vc):=by rw[Array.getElem?_append_left (by simp)];rfl
 generalize #[y8 a,.slice va vs.length vc]++Array.replicate (33 - 2) undef=T at hT h0 h1⊢;have hkc:=b4J hc;rw[c5z];refine H8 (O4 ?_);rw[show List.range (Code.ops (mrP 0)).size=[0] by kernel_rfl];refine G8 (d:=4) (op:=.assign (.const .nilIface)) (g:=none) (v:=.nilIface) (.of (by kernel_rfl)) wn0 hT (by decide) (O6 rfl) fun T1 s1 g1 k1=>U4 ?_;show wpT _ _ _ _ _ _ _;rw[c5A];refine H8 (O4 ?_);rw[show List.range (Code.ops (mrP 1)).size=[0,1,2,3,4,5,6] by kernel_rfl];refine G8 (d:=10) (op:=.move (.tmp 0)) (g:=none) (.of (by kernel_rfl)) wn0 s1 (by decide) (Q7 (D6 ((k1 0 (by decide)).trans h0))) fun T2 s2 g2 k2=>?_;refine a4f (d:=11) (f:=14) (args:=#[.tmp 10]) (ats:=#[30]) (Post:=b82 F Sh a D w) (.of (by kernel_rfl)) s2 (by decide) ?_ fun v w1 Sh1 T3 hP s3 g3 k3=>?_
 ·have e:(#[Operand.tmp 10]).map (Act.eval ⟨T2,[]⟩)=#[y8 a]:=by
   simp only[List.map_toArray,List.map_cons,List.map_nil];rw[D6 g2]
  rw[e];exact b6G W hgl hv hD hfit.data hl
 obtain⟨x,y,rfl⟩:∃x y,v=.tuple #[x,y]:=by
  rcases hP.res with⟨_,_,y,h,_⟩|⟨sb,gen,ids,bss,_,_,_,h,_⟩
  ·exact⟨_,_,h⟩
  ·exact⟨_,_,h⟩
 have hxy:VP (Zf zone Sh1 w1.heap.size) x/\VP (Zf zone Sh1 w1.heap.size) y:=by
  have:=hP.vp
  cases this with
  | tuple c h=>exact⟨h x (by simp),h y (by simp)⟩
 have hD1:A8 w1 F a D:=by have:=hP.disk;rw[hkc.1] at this;exact this
 refine G8 (d:=9) (op:=.move (.tmp 11)) (g:=none) (.of (by kernel_rfl)) wn0 s3 (by decide) (Q7 (D6 g3)) fun T4 s4 g4 k4=>?_;refine G8 (d:=12) (op:=.extract (.tmp 9) 0) (g:=none) (.of (by kernel_rfl)) wn0 s4 (by decide) (a7O (D6 g4) rfl rfl) fun T5 s5 g5 k5=>?_;refine G8 (d:=13) (op:=.extract (.tmp 9) 1) (g:=none) (.of (by kernel_rfl)) wn0 s5 (by decide) (a7O (D6 ((k5 9 (by decide)).trans g4)) rfl rfl) fun T6 s6 g6 k6=>?_;refine G8 (d:=5) (op:=.assign (.tmp 12)) (g:=none) (.of (by kernel_rfl)) wn0 s6 (by decide) (O6 (D6 ((k6 12 (by decide)).trans g5))) fun T7 s7 g7 k7=>?_;refine G8 (d:=6) (op:=.assign (.tmp 13)) (g:=none) (.of (by kernel_rfl)) wn0 s7 (by decide) (O6 (D6 ((k7 13 (by decide)).trans g6))) fun T8 s8 g8 k8=>U4 ?_;have f1:T8[1]?=some (.slice va vs.length vc):=(k8 1 (by decide)).trans ((k7 1 (by decide)).trans ((k6 1 (by decide)).trans ((k5 1 (by decide)).trans ((k4 1 (by decide)).trans ((k3 1 (by decide)).trans ((k2 1 (by decide)).trans ((k1 1 (by decide)).trans h1)))))));have f5:T8[5]?=some x:=(k8 5 (by decide)).trans g7;show wpT _ _ _ _ _ _ _;rw[c5B];refine H8 (H8 (O4 ?_));rw[show List.range (Code.ops (Code.fst (mrP 2))).size=[0,1] by kernel_rfl];refine G8 (d:=14) (op:=.move (.tmp 6)) (g:=none) (.of (by kernel_rfl)) wn0 s8 (by decide) (Q7 (D6 g8)) fun T9 s9 g9 k9=>?_;rcases hP.res with⟨o1,o2,y',e,hE⟩|⟨sb,gen,ids,bss,o1,o2,hids,e,hst⟩
 ·
  obtain rfl:y=y':=by
   injection e with e;have:=congrArg (fun A:Array Value=>A[1]?) e;simpa using this
  obtain⟨t,u,rfl⟩:=err_iface hE.get o2;refine G8 (d:=15) (op:=.binOp .neq 34 (.tmp 14) (.const .nilIface) 34) (g:=none) (.of (by kernel_rfl)) wn0 s9 (by decide) (b0l (D6 g9) rfl) fun T10 s10 g10 k10=>U4 ?_;refine a4e (D6 g10) ?_;refine H8 (O4 ?_);rw[show List.range mr3.size=[0,1] by kernel_rfl];refine G8 (d:=16) (op:=.move (.tmp 6)) (g:=none) (.of (by kernel_rfl)) wn0 s10 (by decide) (Q7 (D6 ((k10 6 (by decide)).trans ((k9 6 (by decide)).trans g8)))) fun T11 s11 g11 k11=>?_;refine G8 (d:=4) (op:=.assign (.tmp 16)) (g:=none) (.of (by kernel_rfl)) wn0 s11 (by decide) (O6 (D6 g11)) fun T12 s12 g12 k12=>U4 ?_;refine b1K ⟨rfl,_,resultsC_tmp rfl T12,?_⟩;rw[G9 g12];refine⟨hP.W,hP.old,hxy.2,hP.chh,hD1,_,hE,?_⟩;rcases hno with⟨-,h2⟩|⟨gen,ids,bss,h1,-⟩
  ·rw[h2];exact hkc.2.2.1
  ·have:=hkc.2.1;rw[o1,h1] at this;cases this
 ·have hx:x=.pointer (some ⟨sb,0,none⟩)/\y=.nilIface:=by
   injection e with e;have h0:=congrArg (fun A:Array Value=>A[0]?) e;have h1:=congrArg (fun A:Array Value=>A[1]?) e;exact⟨by simpa using h0,by simpa using h1⟩
  obtain⟨rfl,rfl⟩:=hx;refine G8 (d:=15) (op:=.binOp .neq 34 (.tmp 14) (.const .nilIface) 34) (g:=none) (.of (by kernel_rfl)) wn0 s9 (by decide) (b9s (D6 g9) rfl) fun T10 s10 g10 k10=>U4 ?_;refine a4e (D6 g10) ?_;refine b3d ?_;have hck:a0g ids vs=false/\f=8:=by
   rcases hno with⟨h1,-⟩|⟨gen',ids',bss',h1,h2,h3⟩
   ·have:=hkc.2.1;rw[o1,h1] at this;cases this
   ·have:=hkc.2.1;rw[o1,h1] at this;injection this with this;injection this with e1 this;injection this with e2 e3;rw[e2];exact⟨h2,h3⟩
  show wpT _ _ _ _ _ _ _;rw[c5C];refine H8 (O4 ?_);rw[show List.range (Code.ops (mrP 3)).size=[0,1,2,3,4,5,6,7] by kernel_rfl];refine G8 (d:=18) (op:=.move (.tmp 5)) (g:=none) (.of (by kernel_rfl)) wn0 s10 (by decide) (Q7 (D6 ((k10 5 (by decide)).trans ((k9 5 (by decide)).trans f5)))) fun T11 s11 g11 k11=>?_;refine G8 (d:=19) (op:=.move (.tmp 1)) (g:=none) (.of (by kernel_rfl)) wn0 s11 (by decide) (Q7 (D6 ((k11 1 (by decide)).trans ((k10 1 (by decide)).trans ((k9 1 (by decide)).trans f1))))) fun T12 s12 g12 k12=>?_;refine a4f (d:=20) (f:=81) (args:=#[.tmp 18,.tmp 19]) (ats:=#[32,69]) (Post:=c3z Sh1 w1) (.of (by kernel_rfl)) s12 (by decide) ?_ fun v w2 Sh2 T13 hN s13 g13 k13=>?_
  ·have e:(#[Operand.tmp 18,.tmp 19]).map (Act.eval ⟨T12,[]⟩)=#[y8 sb,.slice va vs.length vc]:=by
    simp only[List.map_toArray,List.map_cons,List.map_nil];rw[D6 ((k12 18 (by decide)).trans g11),D6 g12];rfl
   rw[e];refine c1C hP.W hxy.1 hst.get hids.1 hn3 (fun j hj=>?_) hck.1;obtain⟨ad,e1,e2,e3,e4⟩:=hvs j hj;have eb:(ad.add j).block=ad.block:=by unfold Addr.add;split<;>rfl
   have hlt:ad.block<w.heap.size:=by rw[<-eb];exact World.block_lt_of_cell? w _ e2
   exact⟨ad,e1,(World.cell?_of_block (hP.chh.block _ (by rw[eb];exact hlt) (by rw[eb];exact e4))).trans e2,e3,Nat.lt_of_lt_of_le hlt hP.chh.size⟩
  ·obtain⟨rfl,hW2,rfl,c2⟩:=hN;refine G8 (d:=17) (op:=.move (.tmp 20)) (g:=none) (.of (by kernel_rfl)) wn0 s13 (by decide) (Q7 (D6 g13)) fun T14 s14 g14 k14=>?_;refine G8 (d:=21) (op:=.extract (.tmp 17) 0) (g:=none) (.of (by kernel_rfl)) wn0 s14 (by decide) (a7O (D6 g14) rfl rfl) fun T15 s15 g15 k15=>?_;refine G8 (d:=22) (op:=.extract (.tmp 17) 1) (g:=none) (.of (by kernel_rfl)) wn0 s15 (by decide) (a7O (D6 ((k15 17 (by decide)).trans g14)) rfl rfl) fun T16 s16 g16 k16=>?_;refine G8 (d:=7) (op:=.assign (.tmp 21)) (g:=none) (.of (by kernel_rfl)) wn0 s16 (by decide) (O6 (D6 ((k16 21 (by decide)).trans g15))) fun T17 s17 g17 k17=>?_;refine G8 (d:=6) (op:=.assign (.tmp 22)) (g:=none) (.of (by kernel_rfl)) wn0 s17 (by decide) (O6 (D6 ((k17 22 (by decide)).trans g16))) fun T18 s18 g18 k18=>U4 ?_;show wpT _ _ _ _ _ _ _;rw[c5E];refine H8 (H8 (O4 ?_));rw[show List.range (Code.ops (Code.fst (mrP 4))).size=[0,1] by kernel_rfl];refine G8 (d:=23) (op:=.move (.tmp 6)) (g:=none) (.of (by kernel_rfl)) wn0 s18 (by decide) (Q7 (D6 g18)) fun T19 s19 g19 k19=>?_;refine G8 (d:=24) (op:=.binOp .neq 34 (.tmp 23) (.const .nilIface) 34) (g:=none) (.of (by kernel_rfl)) wn0 s19 (by decide) (b0l (D6 g19) rfl) fun T20 s20 g20 k20=>U4 ?_;refine a4e (D6 g20) ?_;refine H8 (O4 ?_);rw[show List.range mr6.size=[0,1] by kernel_rfl];refine G8 (d:=25) (op:=.move (.tmp 6)) (g:=none) (.of (by kernel_rfl)) wn0 s20 (by decide) (Q7 (D6 ((k20 6 (by decide)).trans ((k19 6 (by decide)).trans g18)))) fun T21 s21 g21 k21=>?_;refine G8 (d:=4) (op:=.assign (.tmp 25)) (g:=none) (.of (by kernel_rfl)) wn0 s21 (by decide) (O6 (D6 g21)) fun T22 s22 g22 k22=>U4 ?_;refine b1K ⟨rfl,_,resultsC_tmp rfl T22,?_⟩;rw[G9 g22];exact⟨hW2,hP.old,.iface _ _ rfl (.int _ _),hP.chh.trans c2.any,hD1.chh0 c2,.num 8,(Held.true w2 F).mono fun _ _=>rfl,hck.2.symm⟩
end
end
section
open Go.RowKit Go.Lib Go.Maps Dk Pl
def A62(x:Nat->Value):Array Value:=#[x 0,x 1,x 2,x 3,x 4,x 5,x 6,x 7,x 8,x 9,x 10,x 11,x 12,x 13,x 14,x 15,x 16,x 17,x 18,x 19,x 20,x 21,x 22,x 23,x 24,x 25,x 26,x 27,x 28,x 29,x 30,x 31,x 32,x 33,x 34,x 35,x 36,x 37,x 38,x 39,x 40,x 41,x 42,x 43,x 44,x 45,x 46,x 47,x 48,x 49,x 50,x 51,x 52,x 53,x 54,x 55,x 56,x 57,x 58,x 59,x 60,x 61]
theorem b5P(x:Nat->Value):A62 x=((List.range 62).map x).toArray:=by rfl
theorem c2O(T:Array Value)(hT:T.size=62):T=A62 (fun k=>T.getD k undef):=b0Q b5P T hT
theorem b1G(T:Array Value)(hT:T.size=62):∃x,T=A62 x/\∀k,k<62->T[k]?=some (x k):=by
 refine⟨_,c2O T hT,fun k hk=>?_⟩;rw[Array.getD_eq_getD_getElem?,Array.getElem?_eq_getElem (by omega)];rfl
theorem x62{T:Array Value}{x:Nat->Value}(hx:∀k,k<62->T[k]?=some (x k)){k:Nat}{v:Value}(hk:k<62)(h:T[k]?=some v):x k=v:=Option.some.inj ((hx k hk).symm.trans h)
noncomputable def rfC(n:Nat):Code:=Code.behind n (Tryz.f7.body.getD .skip)
noncomputable def rfP(n:Nat):Code:=Code.head (rfC n)
theorem c5G:rfC 0=.seq (rfP 0) (rfC 1):=by kernel_rfl
theorem c5H:rfC 1=.seq (rfP 1) (rfC 2):=by kernel_rfl
theorem c5I:rfC 2=.seq (rfP 2) (rfC 3):=by kernel_rfl
theorem c5J:rfC 3=.seq (rfP 3) (rfC 4):=by kernel_rfl
theorem c5K:rfC 4=.seq (rfP 4) (rfC 5):=by kernel_rfl
theorem c5M:rfC 5=.seq (rfP 5) (rfC 6):=by kernel_rfl
theorem c5N:rfC 6=.seq (rfP 6) (rfC 7):=by kernel_rfl
theorem c5O:rfC 7=.seq (rfP 7) (rfC 8):=by kernel_rfl
theorem c5P:rfC 8=.seq (rfP 8) (rfC 9):=by kernel_rfl
theorem c5Q:rfC 9=.seq (rfP 9) (rfC 10):=by kernel_rfl
theorem c4W:rfC 10=.seq (rfP 10) (rfC 11):=by kernel_rfl
theorem c4X:rfC 11=.seq (rfP 11) (rfC 12):=by kernel_rfl
def QR0(T:Array Value)(v:Value)(w:World):Exit->Act->World->Prop
 | .normal,a',w'=>a'=⟨(T.setIfInBounds 2 (.pointer (some ⟨w.heap.size,0,none⟩))).setIfInBounds 4 (.bool false),[]⟩/\w'=w.alloc (.cells v.cells 27)
 | _,_,_=>False
theorem c4Y(T:Array Value)(v0 v1 v2 v3 v4 v5:Value)(w:World)(hT:T.size=62)(h0:T[0]?=some (.agg #[v0,v1,v2,v3,v4,v5])):(rfP 0).wp Tryz.prog (QR0 T (.agg #[v0,v1,v2,v3,v4,v5]) w) ⟨T,[]⟩ w:=by
 obtain⟨_,h0'⟩:=Array.getElem?_eq_some_iff.1 h0;clear h0;unfold rfP rfC;simp only[Code.behind,Code.head,Tryz.f7,Option.getD_some];go_wp2_with fail
 exact⟨rfl,rfl⟩
def QR1(T:Array Value)(x:Value)(d:Dr)(w:World):Exit->Act->World->Prop
 | .normal,a',w'=>∃b:Bool,a'=⟨((T.setIfInBounds 16 x).setIfInBounds 17 (.bool b)).setIfInBounds 5 (.bool b),[]⟩/\(b=true->d.Small)/\Ext w w'
 | _,_,_=>False
theorem c4Z(T:Array Value)(xb:Nat)(v0 v1 v3:Value)(d:Dr)(w:World)(hT:T.size=62)(h3:T[2]?=some (.pointer (some ⟨xb,0,none⟩)))(hb:o7 w xb 27 #[v0,v1,.int .u64 d.gen,v3,.bool d.whole,.bool d.without])
 (h:b09 w (.agg #[v0,v1,.int .u64 d.gen,v3,.bool d.whole,.bool d.without]) d)(hf:d.Fits 281474976710656):
 (rfP 1).wp Tryz.prog (QR1 T (.agg #[v0,v1,.int .u64 d.gen,v3,.bool d.whole,.bool d.without]) d w) ⟨T,[]⟩ w:=by
 obtain⟨_,h3'⟩:=Array.getElem?_eq_some_iff.1 h3;have b0:=(hb.cell 0).trans (show _=some v0 from rfl);have b1:=(hb.cell 1).trans (show _=some v1 from rfl);have b2:=(hb.cell 2).trans (show _=some (Value.int .u64 d.gen) from rfl);have b3:=(hb.cell 3).trans (show _=some v3 from rfl);have b4:=(hb.cell 4).trans (show _=some (Value.bool d.whole) from rfl);have b5:=(hb.cell 5).trans (show _=some (Value.bool d.without) from rfl);have hsm:=b7w _ d w h hf;have HSM:=Lib.hid hsm;clear h3 hb h hf hsm;unfold rfP rfC;simp only[Code.behind,Code.head,Tryz.f7,Option.getD_some];go_wp2_with fail
 refine HSM.out.mono ?_;rintro e w1 ⟨b,rfl,hsmall,hE1⟩;have HS:=Lib.hid hsmall;have HE:=Lib.hid hE1;clear hsmall hE1;go_wp2;exact⟨b,rfl,HS.out,HE.out⟩
def cr2(k:Nat):Bool:=decide (18<=k)&&decide (k<=24)
theorem c2a{ch:Nat->Bool}{T:Array Value}{x:Nat->Value}(hT:T.size=62)(hx:∀k,k<62->T[k]?=some (x k))(A:Array Value)(y:Nat->Value)(h:A=A62 (fun k=>if ch k=true then y k else x k)):Kp ch T A:=by
 rw[h];refine⟨by rw[hT];rfl,fun k hk=>?_⟩;rcases Nat.lt_or_ge k 62 with hl|hl
 ·rw[c0Y b5P _ hl,if_neg (by rw[hk];decide),hx k hl]
 ·rw[Array.getElem?_eq_none (by show 62<=k;omega),Array.getElem?_eq_none (by omega)]
def QR2(T:Array Value)(b:Bool)(n:Nat)(w:World):Exit->Act->World->Prop
 | .normal,a',w'=>b=true/\n<=300/\a'.defers=[]/\Kp cr2 T a'.tmps/\w'=w
 | .ret,a',w'=>a'.defers=[]/\a'.tmps[4]?=some (.bool true)/\w'=w
 | _,_,_=>False
theorem c41(T:Array Value)(b:Bool)(ba:Option Addr)(n bc:Nat)(w:World)(hT:T.size=62)(h5:T[5]?=some (.bool b))(h1:T[1]?=some (.slice ba n bc)):(rfP 2).wp Tryz.prog (QR2 T b n w) ⟨T,[]⟩ w:=by
 obtain⟨x,e,hx⟩:=b1G T hT;have e1:=x62 hx (by decide) h1;have e5:=x62 hx (by decide) h5;have E1:=a0F e1;have e5':up x 1 (.slice ba n bc) 5=.bool b:=(congrFun E1 5).trans e5;have fin:=c2a (ch:=cr2) (x:=up (up x 1 (.slice ba n bc)) 5 (.bool b)) hT (fun k hk=>by rw[a0F e5',E1];exact hx k hk);have FIN:=Lib.hid fin;refine(congrArg (fun T'=>Code.wp _ _ _ ⟨T',[]⟩ _) (U0 (k:=5) (U0 (k:=1) e e1) e5')).mpr ?_;clear fin e hx hT h1 h5 e1 e5 E1 e5';unfold rfP rfC;simp only[Code.behind,Code.head,Tryz.f7,Option.getD_some,A62,up,reduceIte,Nat.reduceEqDiff]
 cases b with
 | true=>
  by_cases hn:n<=300
  ·have hg:¬(300:Int)<(n:Int):=by omega
   go_wp2_with fail
   exact⟨rfl,hn,rfl,FIN.out _ (fun k=>if k=18 then .bool true else if k=19 then .bool false else if k=20 then .bool false else if k=21 then .slice ba n bc else if k=22 then .int .i64 n else .bool false) rfl,rfl⟩
  ·have hg:(300:Int)<(n:Int):=by omega
   go_wp2_with fail
   exact⟨rfl,rfl,rfl⟩
 | false=>
  go_wp2_with fail
  exact⟨rfl,rfl,rfl⟩
def QR3(T:Array Value)(x:Value)(w:World):Exit->Act->World->Prop
 | .normal,a',w'=>∃(a:Nat)(F:Nat->Prop)(D:Dk.D),a'=⟨((T.setIfInBounds 25 x).setIfInBounds 26 (y8 a)).setIfInBounds 6 (y8 a),[]⟩/\A8 w' F a D/\D.Safe/\D.Fit/\Ext w w'/\∀b,F b->w.heap.size<=b
 | _,_,_=>False
theorem c42(T:Array Value)(xb:Nat)(v0 v1 v3:Value)(d:Dr)(w:World)(hT:T.size=62)(h3:T[2]?=some (.pointer (some ⟨xb,0,none⟩)))(hb:o7 w xb 27 #[v0,v1,.int .u64 d.gen,v3,.bool d.whole,.bool d.without])
 (h:b09 w (.agg #[v0,v1,.int .u64 d.gen,v3,.bool d.whole,.bool d.without]) d)(hs:d.Small)(hL:Laid w):
 (rfP 3).wp Tryz.prog (QR3 T (.agg #[v0,v1,.int .u64 d.gen,v3,.bool d.whole,.bool d.without]) w) ⟨T,[]⟩ w:=by
 obtain⟨_,h3'⟩:=Array.getElem?_eq_some_iff.1 h3;have b0:=(hb.cell 0).trans (show _=some v0 from rfl);have b1:=(hb.cell 1).trans (show _=some v1 from rfl);have b2:=(hb.cell 2).trans (show _=some (Value.int .u64 d.gen) from rfl);have b3:=(hb.cell 3).trans (show _=some v3 from rfl);have b4:=(hb.cell 4).trans (show _=some (Value.bool d.whole) from rfl);have b5:=(hb.cell 5).trans (show _=some (Value.bool d.without) from rfl);have hdk:=b88 _ d w h hs hL;have HDK:=Lib.hid hdk;clear h3 hb h hs hL hdk;unfold rfP rfC;simp only[Code.behind,Code.head,Tryz.f7,Option.getD_some];go_wp2_with fail
 refine HDK.out.mono ?_;rintro e w2 ⟨a,F,D,rfl,hD,hsafe,hdat,hlen,hnam,hE2,hF⟩;have hfin:A8 w2 F a D/\D.Safe/\D.Fit/\Ext w w2/\∀b,F b->w.heap.size<=b:=⟨hD,hsafe,⟨hdat,hlen,hnam⟩,hE2,hF⟩;have HF:=Lib.hid hfin;clear hfin hD hsafe hdat hlen hnam hE2 hF;unfold y8;go_wp2;exact⟨a,F,D,rfl,HF.out⟩
section
variable{F:Nat->Prop}{a:Nat}{D:Dk.D}{w:World}{T:Array Value}
def cr4(k:Nat):Bool:=k==27||k==28||k==7
def QR4(F:Nat->Prop)(a:Nat)(D:Dk.D)(T:Array Value)(w:World):Exit->Act->World->Prop
 | .normal,a',w'=>a'.defers=[]/\Kp cr4 T a'.tmps/\∃fv rows,a'.tmps[7]?=some fv/\a0d w' w.heap.size fv rows D.files/\A8 w' F a D/\Chg F F w w'
 | _,_,_=>False
theorem c43(hT:T.size=62)(h8:T[6]?=some (y8 a))(hD:A8 w F a D)(hc:D.Calm)(hfit:D.Fit):(rfP 4).wp Tryz.prog (QR4 F a D T w) ⟨T,[]⟩ w:=by
 obtain⟨_,h8'⟩:=slot h8;have hfs:=a99 F a D w hD hc (by have:=hfit.len;omega) (fun x hx=>by have:=hfit.data x hx;omega) (fun p hp=>by have:=hfit.names p hp;unfold maxLen;omega);have HFS:=Lib.hid hfs;clear hfs hD hc hfit h8;unfold y8 at h8' HFS;unfold rfP rfC;simp only[Code.behind,Code.head,Tryz.f7,Option.getD_some];go_wp2_with fail
 refine HFS.out.mono ?_;rintro e w1 ⟨fv,rows,rfl,hR,hD2,hC2⟩;have HR:=Lib.hid hR;have HD:=Lib.hid hD2;have HC:=Lib.hid hC2;clear hR hD2 hC2 HFS h8';go_wp2;refine⟨rfl,?_,fv,rows,?_,HR.out,HD.out,HC.out⟩
 ·dsimp only;exact Kp.set (Kp.set (Kp.set (Kp.refl _ _) rfl) rfl) rfl
 ·dsimp only;exact a1a (by simp only[Array.size_setIfInBounds,hT];decide)
def cr5(k:Nat):Bool:=k==30||k==31||k==29||k==32||k==33||k==34||k==8||k==9||k==10
def QR5(l:Fl)(T:Array Value)(w:World):Exit->Act->World->Prop
 | .normal,a',w'=>a'.defers=[]/\Kp cr5 T a'.tmps/\∃v,a'.tmps[8]?=some v/\a'.tmps[9]?=some (.int .i64 (I7 l).2.1)/\a4q l w (.returned (.tuple #[v,.int .i64 (I7 l).2.1,strV (I7 l).2.2])) w'
 | _,_,_=>False
theorem c44{fv:Value}{l:Fl}(hT:T.size=62)(h13:T[7]?=some fv)(hf:U6 w fv l)(hl:∀p∈l,p.2.length<=1099511627776):(rfP 5).wp Tryz.prog (QR5 l T w) ⟨T,[]⟩ w:=by
 obtain⟨_,h13'⟩:=slot h13;have hro:=b24 fv l w hf hl;have HRO:=Lib.hid hro;clear hro hf hl h13;unfold rfP rfC;simp only[Code.behind,Code.head,Tryz.f7,Option.getD_some];go_wp2_with fail
 refine HRO.out.mono ?_;intro e w1 hro;obtain⟨v,rfl,h2⟩:=id hro;have HR:=Lib.hid hro;clear hro h2 HRO h13';go_wp2;refine⟨rfl,?_,v,?_,?_,HR.out⟩
 ·dsimp only;exact Kp.set (Kp.set (Kp.set (Kp.set (Kp.set (Kp.set (Kp.set (Kp.set (Kp.set (Kp.refl _ _) rfl) rfl) rfl) rfl) rfl) rfl) rfl) rfl) rfl
 ·dsimp only;exact a3e (a3e (a1a (by simp only[Array.size_setIfInBounds,hT];decide)) (by decide)) (by decide)
 ·dsimp only;exact a3e (a1a (by simp only[Array.size_setIfInBounds,hT];decide)) (by decide)
def cr9(k:Nat):Bool:=k==46||k==47||k==45||k==48||k==49||k==12||k==13
def QR9(T:Array Value)(cd:Int)(w:World):Exit->Act->World->Prop
 | .normal,a',w'=>a'.defers=[]/\Kp cr9 T a'.tmps/\a'.tmps[12]?=some (.int .i64 cd)/\Ext w w'
 | _,_,_=>False
theorem c47{y:Value}{er:Er}(hT:T.size=62)(h10:T[11]?=some y)(hL:Laid w)(he:ErrAt w y er):(rfP 9).wp Tryz.prog (QR9 T er.code w) ⟨T,[]⟩ w:=by
 obtain⟨_,h10'⟩:=slot h10;have htl:=b2E er y w he hL;obtain⟨cd,hcd⟩:∃cd,er.code=cd:=⟨_,rfl⟩;obtain⟨nm,hnm⟩:∃nm,strV er.name=nm:=⟨_,rfl⟩;rw[hcd,hnm] at htl;rw[hcd];have HTL:=Lib.hid htl;clear htl he hL h10 hcd hnm;unfold rfP rfC;simp only[Code.behind,Code.head,Tryz.f7,Option.getD_some];go_wp2_with fail
 refine HTL.out.mono ?_;rintro e w1 ⟨rfl,hE1⟩;have HE:=Lib.hid hE1;clear hE1 HTL h10';go_wp2;refine⟨rfl,?_,?_,HE.out⟩
 ·dsimp only;exact Kp.set (Kp.set (Kp.set (Kp.set (Kp.set (Kp.set (Kp.set (Kp.refl _ _) rfl) rfl) rfl) rfl) rfl) rfl) rfl
 ·dsimp only;exact a3e (a1a (by simp only[Array.size_setIfInBounds,hT];decide)) (by decide)
def c5R(k:Nat):Bool:=k==50||k==51||k==14
def c48(F:Nat->Prop)(a:Nat)(D:Dk.D)(T:Array Value)(w:World):Exit->Act->World->Prop
 | .normal,a',w'=>a'.defers=[]/\Kp c5R T a'.tmps/\∃fv rows,a'.tmps[14]?=some fv/\a0d w' w.heap.size fv rows D.files/\A8 w' F a D/\Chg F F w w'
 | _,_,_=>False
theorem c3Z(hT:T.size=62)(h8:T[6]?=some (y8 a))(hD:A8 w F a D)(hc:D.Calm)(hfit:D.Fit):(rfP 10).wp Tryz.prog (c48 F a D T w) ⟨T,[]⟩ w:=by
 obtain⟨_,h8'⟩:=slot h8;have hfs:=a99 F a D w hD hc (by have:=hfit.len;omega) (fun x hx=>by have:=hfit.data x hx;omega) (fun p hp=>by have:=hfit.names p hp;unfold maxLen;omega);have HFS:=Lib.hid hfs;clear hfs hD hc hfit h8;unfold y8 at h8' HFS;unfold rfP rfC;simp only[Code.behind,Code.head,Tryz.f7,Option.getD_some];go_wp2_with fail
 refine HFS.out.mono ?_;rintro e w1 ⟨fv,rows,rfl,hR,hD2,hC2⟩;have HR:=Lib.hid hR;have HD:=Lib.hid hD2;have HC:=Lib.hid hC2;clear hR hD2 hC2 HFS h8';go_wp2;refine⟨rfl,?_,fv,rows,?_,HR.out,HD.out,HC.out⟩
 ·dsimp only;exact Kp.set (Kp.set (Kp.set (Kp.refl _ _) rfl) rfl) rfl
 ·dsimp only;exact a1a (by simp only[Array.size_setIfInBounds,hT];decide)
end
def cr6(k:Nat):Bool:=k==35||k==36||k==37||k==38||k==39||k==9
def QR6(T:Array Value)(f:Int)(w:World):Exit->Act->World->Prop
 | .normal,a',w'=>a'.defers=[]/\Kp cr6 T a'.tmps/\a'.tmps[9]?=some (.int .i64 f)/\Ext w w'
 | _,_,_=>False
theorem b7v(T:Array Value)(f:Int)(w:World)(hT:T.size=62)(h9:T[9]?=some (.int .i64 f))(hf:f≠0):(rfP 6).wp Tryz.prog (QR6 T f w) ⟨T,[]⟩ w:=by
 obtain⟨x,e,hx⟩:=b1G T hT;have e9:=x62 hx (by decide) h9;have fin:=c2a (ch:=cr6) (x:=up x 9 (.int .i64 f)) hT (fun k hk=>by rw[a0F e9];exact hx k hk);have FIN:=Lib.hid fin;refine(congrArg (fun T'=>Code.wp _ _ _ ⟨T',[]⟩ _) (U0 (k:=9) e e9)).mpr ?_;clear fin e hx hT h9 e9;unfold rfP rfC;simp only[Code.behind,Code.head,Tryz.f7,Option.getD_some,A62,up,reduceIte,Nat.reduceEqDiff];go_wp2_with fail
 exact⟨rfl,FIN.out _ (fun k=>if k=35 then .int .i64 f else if k=36 then .bool (f==0) else if k=9 then .int .i64 f else x k) rfl,rfl,Ext.refl w⟩
theorem c0g(T:Array Value){rb gen:Nat}{ids vs:List Int}{bss:List (List UInt8)}{v:Value}(w:World)(hT:T.size=62)(h9:T[9]?=some (.int .i64 0))(h8:T[8]?=some (y8 rb))(h1:T[1]?=some v)(h:a4c w rb gen ids bss)(hv:Ints w v vs)(hn:ids.length<=60)(hl:vs.length<=300):
 (rfP 6).wp Tryz.prog (QR6 T (if a0g ids vs=true then 0 else 8) w) ⟨T,[]⟩ w:=by
 obtain⟨x,e,hx⟩:=b1G T hT;have e9:=x62 hx (by decide) h9;have e8:=x62 hx (by decide) h8;have e1:=x62 hx (by decide) h1;have E9:=a0F e9;have e8':up x 9 (.int .i64 0) 8=y8 rb:=(congrFun E9 8).trans e8;have E8:=a0F e8';have e1':up (up x 9 (.int .i64 0)) 8 (y8 rb) 1=v:=by rw[E8,E9];exact e1
 have fin:=c2a (ch:=cr6) (x:=up (up (up x 9 (.int .i64 0)) 8 (y8 rb)) 1 v) hT (fun k hk=>by rw[a0F e1',E8,E9];exact hx k hk);have FIN:=Lib.hid fin;have hck:=b4D rb gen ids bss v vs w h hv hn hl;refine(congrArg (fun T'=>Code.wp _ _ _ ⟨T',[]⟩ _) (U0 (k:=1) (U0 (k:=8) (U0 (k:=9) e e9) e8') e1')).mpr ?_;obtain⟨f,hf⟩:∃f:Int,(if a0g ids vs=true then 0 else 8)=f:=⟨_,rfl⟩;unfold b2Z at hck;rw[hf] at hck⊢;have HCK:=Lib.hid hck;clear fin e hx hT h9 h8 h1 e9 e8 e1 E9 e8' E8 e1' hck h hv hf;unfold y8 at HCK FIN⊢;unfold rfP rfC;simp only[Code.behind,Code.head,Tryz.f7,Option.getD_some,A62,up,reduceIte,Nat.reduceEqDiff];go_wp2_with fail
 refine HCK.out.mono ?_;rintro e w1 ⟨rfl,hE⟩;have HE:=Lib.hid hE;clear hE HCK;go_wp2_with fail
 exact⟨rfl,FIN.out _ (fun k=>if k=35 then .int .i64 0 else if k=36 then .bool true else if k=37 then .pointer (some ⟨rb,0,none⟩) else if k=38 then v else .int .i64 f) rfl,rfl,HE.out⟩
def cr7(k:Nat):Bool:=k==40||k==41
def QR7(T:Array Value)(f:Int)(w:World):Exit->Act->World->Prop
 | .normal,a',w'=>f≠0/\a'.defers=[]/\Kp cr7 T a'.tmps/\w'=w
 | .ret,a',w'=>a'.defers=[]/\a'.tmps[4]?=some (.bool true)/\w'=w
 | _,_,_=>False
theorem c5a(T:Array Value)(f:Int)(w:World)(hT:T.size=62)(h9:T[9]?=some (.int .i64 f)):(rfP 7).wp Tryz.prog (QR7 T f w) ⟨T,[]⟩ w:=by
 obtain⟨x,e,hx⟩:=b1G T hT;have e9:=x62 hx (by decide) h9;have fin:=c2a (ch:=cr7) (x:=up x 9 (.int .i64 f)) hT (fun k hk=>by rw[a0F e9];exact hx k hk);have FIN:=Lib.hid fin;refine(congrArg (fun T'=>Code.wp _ _ _ ⟨T',[]⟩ _) (U0 (k:=9) e e9)).mpr ?_;clear fin e hx hT h9 e9;unfold rfP rfC;simp only[Code.behind,Code.head,Tryz.f7,Option.getD_some,A62,up,reduceIte,Nat.reduceEqDiff];by_cases hf:f=0
 ·subst hf;go_wp2_with fail
  exact⟨rfl,rfl,rfl⟩
 ·go_wp2_with fail
  exact⟨hf,rfl,FIN.out _ (fun k=>if k=40 then .int .i64 f else .bool (f==0)) rfl,rfl⟩
def c5S(k:Nat):Bool:=k==52||k==53||k==54||k==15
def c5b(T:Array Value)(w:World):Exit->Act->World->Prop
 | .normal,a',w'=>a'.defers=[]/\Kp c5S T a'.tmps/\a'.tmps[15]?=some (.bool true)/\Ext w w'
 | _,_,_=>False
theorem c30{T:Array Value}{u v:Value}{l:Fl}{w:World}(hT:T.size=62)(h14:T[14]?=some u)(h7:T[7]?=some v)(hu:U6 w u l)(hv:U6 w v l):(rfP 11).wp Tryz.prog (c5b T w) ⟨T,[]⟩ w:=by
 obtain⟨_,h14'⟩:=slot h14;obtain⟨_,h7'⟩:=slot h7;have hc:=a9B u v l w hu hv;have HC:=Lib.hid hc;clear hc h14 h7 hu hv;unfold rfP rfC;simp only[Code.behind,Code.head,Tryz.f7,Option.getD_some];go_wp2_with fail
 refine HC.out.mono ?_;rintro e w1 ⟨rfl,n,hw⟩;have HW:=Lib.hid hw;clear hw HC;go_wp2;refine⟨rfl,?_,?_,by rw[HW.out];exact Ext.drewN _ _⟩
 ·dsimp only;exact Kp.set (Kp.set (Kp.set (Kp.set (Kp.refl _ _) rfl) rfl) rfl) rfl
 ·dsimp only;exact a1a (by simp only[Array.size_setIfInBounds,hT];decide)
def c5c(w:World):Exit->Act->World->Prop
 | .ret,a',w'=>a'.defers=[]/\a'.tmps[4]?=some (.bool true)/\w'=w
 | _,_,_=>False
theorem c33(T:Array Value)(f:Int)(w:World)(hT:T.size=62)(h15:T[15]?=some (.bool true))(h12:T[12]?=some (.int .i64 f))(h9:T[9]?=some (.int .i64 f)):(rfC 12).wp Tryz.prog (c5c w) ⟨T,[]⟩ w:=by
 rw[U0 (k:=9) (U0 (k:=12) (U0 (k:=15) (c2O T hT) (G9 h15)) (G9 h12)) (G9 h9)];generalize (fun k=>T.getD k undef)=x;clear hT h15 h12 h9;unfold rfC;simp only[Code.behind,Tryz.f7,Option.getD_some,A62,up,reduceIte,Nat.reduceEqDiff];go_wp2_with fail
 refine(c1u f w).mono ?_;rintro e w1 ⟨rfl,rfl⟩;go_wp2_with fail
 exact⟨rfl,rfl,rfl⟩
end
section
open Go.RowKit Go.Lib Go.Maps Dk
section
variable{w w':World}{F:Nat->Prop}{a m1 m2:Nat}{mv:Value}{gs:List Nat}{dv:Nat->Value}{d:D}
theorem DiskRep.fresh(h:DiskRep w F a m1 m2 mv gs dv d):DiskRep (((((w.alloc (.map #[] 0)).setCell ⟨a,0,none⟩ (.map (some w.heap.size))).setCell ⟨a,2,none⟩ (.slice none 0 0)).setCell ⟨a,4,none⟩ (.int .i64 0)).setCell ⟨a,5,none⟩ (.int .i64 0))
 (fun b=>F b\/b=w.heap.size) a w.heap.size m2 (.slice none 0 0) [] dv {d with now:=[],moves:=[],wait:=0,bad:=0}:=by
 have hE:Ext w (w.alloc (.map #[] 0)):=(Ext.refl w).new _;have h1:=h.ext hE;have hb:=h1.box;have hO:=((((Off.refl a (w.alloc (.map #[] 0))).setCell 0 (.map (some w.heap.size))).setCell 2 (.slice none 0 0)).setCell 4 (.int .i64 0)).setCell 5 (.int .i64 0);have hlow:=h.low;have hba:a≠w.heap.size:=by have:=hlow a h.fa;omega
 exact{
  box:=by
   have:=(((hb.set 0 (.map (some w.heap.size))).set 2 (.slice none 0 0)).set 4 (.int .i64 0)).set 5 (.int .i64 0);simpa using this
  now:=(MapOf.made w).off hO (Ne.symm hba)
  safe:=h1.safe.off hO (h1.map_ne hb).2
  ne:=by have:=hlow m2 h.fm.2;omega
  rows:=⟨rfl,by simp⟩
  outer:=⟨rfl,Or.inl ⟨rfl,rfl⟩⟩
  outf:=fun g c e fr h=>by cases h
  flat:=fun x hx=>(h1.flat x hx).keep fun b hb'=>hO.block b (fun e=>F9 (h1.file x hx).2 hb (by decide) (e▸hb'))
  file:=fun x hx=>⟨(hO.block x (a3i (h1.file x hx).1 hb (by decide))).trans (h1.file x hx).1,Dep.row (h1.file x hx).2 _ fun b hb'=>hO.block b (fun e=>F9 (h1.file x hx).2 hb (by decide) (e▸hb'))⟩
  apart:=h.apart
  fa:=.inl h.fa
  fm:=⟨.inr rfl,.inl h.fm.2⟩
  fg:=by simp
  fo:=by simp[Value.ownBlock]
  fx:=fun x hx=>⟨.inl (h.fx x hx).1,fun b hb'=>.inl ((h.fx x hx).2 b hb')⟩
  low:=fun b hb'=>by
   rw[hO.size];simp;rcases hb' with h'|h'
   ·have:=hlow b h';omega
   ·omega
  wf:=⟨by simp,h.wf.safe,by simp,h.wf.part,h.wf.ids⟩
  num:=⟨by simp,by simp,h.num.2.2⟩}
end
end
section
open Go.RowKit Go.Lib Go.Maps Dk Pl
theorem LaidP.held{w:World}(h:LaidP w):Held w (fun _=>False) LaidP:=by
 cases hg:Program.globalNamed Tryz.prog "internal/strconv.uint64pow10" with
 | none=>unfold LaidP Lib.TabIs World.var? at h;simp[hg] at h
 | some g=>
  have h':=h;unfold LaidP Lib.TabIs World.var? at h';simp only[hg,Option.bind_some] at h';have hlt:g<w.heap.size:=by
   rcases Nat.lt_or_ge g w.heap.size with h1|h1
   ·exact h1
   ·rw[Array.getElem?_eq_none h1] at h';cases h'
  refine .of (S:=fun b=>b=g) (fun w' hw=>?_) fun b e=>by subst e;exact⟨hlt,id⟩
  unfold LaidP Lib.TabIs World.var?;simp only[hg,Option.bind_some];rw[hw g rfl];exact h'
end
section
open Go.RowKit Go.Lib Go.Maps Dk Pl
open Go.Conc Go.Mw
open Zn (tp Full WPs VP Zf Le)
open To
set_option linter.unusedSectionVars false
def rX(k:Tmp):Bool:=k==4||k==6||k==7||k==9||(decide (11<=k)&&decide (k<=15))||decide (45<=k)
noncomputable def a2E:List Code:=[rfP 9,rfP 10,rfP 11,rfC 12]
theorem c0h:(a2E.all fun c=>Zn.cOK zb c&&Zn.useB rX c)=true:=by kernel_rfl
theorem a2u{c:Code}(h:c∈a2E):Zn.CodeP zone c/\Zn.CodeU (fun k=>rX k=true) c:=by
 have:=List.all_eq_true.1 c0h c h;simp only[Bool.and_eq_true] at this;exact⟨Zn.cOK.sound this.1,Zn.useB.sound this.2⟩
theorem c2b:rfP 8=.region 11 (Code.ops (rfP 8)) false:=by kernel_rfl
section
variable[Go.ConcR.Payload][To.Lo]{Sh:Nat->Prop}{w:World}{T:Array Value}{F:Nat->Prop}{a:Nat}{D:Dk.D}
theorem c2c{va:Option Addr}{vc:Nat}{vs:List Int}{fv:Value}{f:Int}(hI:Iv zone Sh (fun k=>rX k=true) ⟨T,[]⟩ w)(hT:T.size=62)(h1:T[1]?=some (.slice va vs.length vc))(h6:T[6]?=some (y8 a))(h7:T[7]?=some fv)(h9:T[9]?=some (.int .i64 f))
 (hgl:Tryz.prog.globals.size<=w.heap.size)(hD:A8 w F a D)(hc:D.Calm)(hfit:D.Fit)(hL:Laid w)(hF:∀b,F b->7<b)(hl:Held w F LaidP)(hn3:vs.length<=300)(hfv:Held w F (fun W=>U6 W fv D.files))
 (hvs:∀j,j<vs.length->∃ad,va=some ad/\w.cell? (ad.add j)=some (.int .i64 (vs.getD j 0))/\ad.block<Lo.n/\¬F ad.block)
 (hno:((I7 D.files).1=none/\f=(I7 D.files).2.1)\/(∃gen ids bss,I7 D.files=(some (gen,ids,bss),0,[])/\a0g ids vs=false/\f=8)):
 wpT Tryz.prog 7 (rfC 8) (bodyT Tryz.prog Tryz.f7 fun v w' _=>v=.bool true/\Chh F w w') ⟨T,[]⟩ w Sh:=by
 have hv:VP (Zf zone Sh w.heap.size) (y8 a):=by
  have:=hI.tmps 6 rfl;dsimp only at this;rw[G9 h6] at this;exact this
 have heldL:Held w F Laid:=by
  unfold Laid at hL;refine⟨fun b=>b=0,fun b hb'=>?_,fun W' hw=>(World.cell?_of_block (hw _ rfl)).trans hL⟩;subst hb';exact⟨cell_lt hL,fun h=>absurd (hF _ h) (by decide)⟩
 rw[c5P,c2b];refine H8 (O4 ?_);rw[show List.range (Code.ops (rfP 8)).size=[0,1,2,3] by kernel_rfl];refine G8 (d:=42) (op:=.move (.tmp 6)) (g:=none) (.of (by kernel_rfl)) wn0 hT (by decide) (Q7 (D6 h6)) fun T1 s1 g1 k1=>?_;refine G8 (d:=43) (op:=.move (.tmp 1)) (g:=none) (.of (by kernel_rfl)) wn0 s1 (by decide) (Q7 (D6 ((k1 1 (by decide)).trans h1))) fun T2 s2 g2 k2=>?_;refine a4f (d:=44) (f:=38) (args:=#[.tmp 42,.tmp 43]) (ats:=#[30,69]) (Post:=c4R F Sh a D f w) (.of (by kernel_rfl)) s2 (by decide) ?_ fun y w1 Sh1 T3 hP s3 g3 k3=>?_
 ·have e:(#[Operand.tmp 42,.tmp 43]).map (Act.eval ⟨T2,[]⟩)=#[y8 a,.slice va vs.length vc]:=by
   simp only[List.map_toArray,List.map_cons,List.map_nil];rw[D6 ((k2 42 (by decide)).trans g1),D6 g2]
  rw[e];exact b9t hI.W hgl hv hD hc hfit hl hn3 hvs f hno
 refine G8 (d:=11) (op:=.assign (.tmp 44)) (g:=none) (.of (by kernel_rfl)) wn0 s3 (by decide) (O6 (D6 g3)) fun T4 s4 g4 k4=>U4 ?_;have hle:Le (Zf zone Sh w.heap.size) (Zf zone Sh1 w1.heap.size):=⟨rfl,rfl,rfl,fun b h=>⟨Nat.lt_of_lt_of_le h.1 hP.chh.size,fun hs=>h.2 (hP.old b h.1 hs)⟩⟩;have kk:∀k,k≠11->k≠42->k≠43->k≠44->T4[k]?=T[k]?:=fun k a1 a2 a3 a4=>(k4 k a1).trans ((k3 k a4).trans ((k2 k a3).trans (k1 k a2)));have hI4:Iv zone Sh1 (fun k=>rX k=true) ⟨T4,[]⟩ w1:=by
  refine⟨fun t ht=>?_,fun d hd=>(by cases hd),hP.W⟩;have gx:∀j,rX j=false->t≠j:=fun j hj e=>by subst e;rw[hj] at ht;cases ht
  show VP _ (T4.getD t undef);rw[Array.getD_eq_getD_getElem?];by_cases e:t=11
  ·subst e;rw[g4];exact hP.vp
  rw[kk t e (gx 42 rfl) (gx 43 rfl) (gx 44 rfl),<-Array.getD_eq_getD_getElem?];exact(hI.tmps t ht).mono hle
 obtain⟨er,hE,hcd⟩:=hP.err;have hL1:Held w1 F Laid:=heldL.chh hP.chh hD.low;have hfv1:=hfv.chh hP.chh hD.low;have hD1:=hP.disk;have f6:T4[6]?=some (y8 a):=(kk 6 (by decide) (by decide) (by decide) (by decide)).trans h6;have f7:T4[7]?=some fv:=(kk 7 (by decide) (by decide) (by decide) (by decide)).trans h7;have f9:T4[9]?=some (.int .i64 f):=(kk 9 (by decide) (by decide) (by decide) (by decide)).trans h9;show wpT _ _ _ _ _ _ _;rw[c5Q];refine H8 (piece (fun w=>QR9 T4 er.code w) hI4 (a2u (by simp[a2E])).1 (a2u (by simp[a2E])).2 (fun τ p=>c47 s4 g4 hL1.to_tp.get hE.to_tp.get) ?_);rintro e ⟨T5,d5⟩ w5 τ p τ' p' q;cases e<;>first|exact q.elim|skip
 obtain⟨q1,q2,q3,q4⟩:=q;dsimp only at q1 q2 q3;subst q1;have c5:Chh F w1 w5:=.ext q4;have hD5:A8 w5 F a D:=hD1.frame (fun b hb=>q4.block b (hD1.low b hb)) c5.size;refine⟨.inl rfl,fun hI5 _=>?_⟩;clear q4;have hfv5:=hfv1.chh c5 hD1.low;show wpT _ _ _ _ _ _ _;rw[c4W];refine H8 (piece (fun w=>c48 F a D T5 w) hI5 (a2u (by simp[a2E])).1 (a2u (by simp[a2E])).2 (fun τ p=>c3Z (q2.size.trans s4) ((q2.keep 6 rfl).trans f6) hD5.to_tp hc hfit) ?_);rintro e ⟨T6,d6⟩ w6 τ p τ' p' q;cases e<;>first|exact q.elim|skip
 obtain⟨r1,r2,u,rows,r3,r4,r5,r6⟩:=q;dsimp only at r1 r2 r3;subst r1;have c6:Chh F w5 w6:=.of r6;have hu:U6 w6 u D.files:=r4.files;have hfv6:=hfv5.chh c6 hD5.low;have s6:=r2.size.trans (q2.size.trans s4);refine⟨.inl rfl,fun hI6 _=>?_⟩;clear r4 r5 r6;show wpT _ _ _ _ _ _ _;rw[c4X];refine H8 (piece (fun w=>c5b T6 w) hI6 (a2u (by simp[a2E])).1 (a2u (by simp[a2E])).2 (fun τ p=>c30 s6 r3 ((r2.keep 7 rfl).trans ((q2.keep 7 rfl).trans f7)) hu hfv6.get) ?_);rintro e ⟨T7,d7⟩ w7 τ p τ' p' q;cases e<;>first|exact q.elim|skip
 obtain⟨u1,u2,u3,u4⟩:=q;dsimp only at u1 u2 u3;subst u1;have c7:Chh F w6 w7:=.ext u4;refine⟨.inl rfl,fun hI7 _=>?_⟩;clear u4;show wpT _ _ _ _ _ _ _;have t12:T7[12]?=some (.int .i64 f):=(u2.keep 12 rfl).trans ((r2.keep 12 rfl).trans (hcd▸q3));have t9:T7[9]?=some (.int .i64 f):=(u2.keep 9 rfl).trans ((r2.keep 9 rfl).trans ((q2.keep 9 rfl).trans f9));refine piece (fun w=>c5c w) hI7 (a2u (by simp[a2E])).1 (a2u (by simp[a2E])).2 (fun τ p=>c33 T7 f _ (u2.size.trans s6) u3 t12 t9) ?_;rintro e a8 w8 τ p τ' p' q;cases e<;>first|exact q.elim|skip
 obtain⟨v1,v2,v3⟩:=q;exact⟨.inr rfl,fun _ _=>⟨v1,_,resultsC_tmp rfl a8.tmps,G9 v2,hP.chh.trans (c5.trans (c6.trans (c7.trans (.eq v3))))⟩⟩
end
end
end Go.Proofs.YtgpbhjjajpbeeaaGreatDoor
