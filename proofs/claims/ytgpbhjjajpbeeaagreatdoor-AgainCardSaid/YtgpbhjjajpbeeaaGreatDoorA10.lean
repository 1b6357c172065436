/- A part of what the last file proves. -/
import Derived.Test.YtgpbhjjajpbeeaaGreatDoorA09
import GoSem.Dispatch
set_option linter.all false
set_option maxRecDepth 100000
set_option maxHeartbeats 8000000
namespace Go.Mw
open Go.Conc Go.RowKit Go.Conc.Lib Go.ConcR.Gen Go.ConcN.Gen Mc
variable{i j:Nat}{o:Oper}{u v:aX}{T:dU}
section
open Go.ConcR (KK wgBlock WgAt stA smA rd wr mk DC0)
open Go.ConcN (WgLive)
open Zn (tp)
variable[Go.ConcR.Payload]
def qD(w w₁:aB):Prop:=∃τ p,w₁=tp w τ p
variable{Z:Pz}{L:WgLink}{x:Option Nat}{b₀:Frame}{a₀:Act}{ops₀:Array Oper}{i₀:Nat}{rest₀:List Nat}{k₀:List Item}{cs:List Frame}
def Wp(P:Program)(g' g:iY)(w:aB):Prop:=Goes P true qD DC0 (λg₁ _=>g₁=g') 40 g w
def Wj(Z:Pz)(L:WgLink)(w0:aB)(c:Frame)(cs:iZ)(g:iY)(w:aB):Prop:=
 ∃T:dU,g=G ((base L.wait).at ⟨T,[]⟩ [.code (L7 L),.inLoop (L7 L),.inBlock 0]) (c::cs)/\T.size=84/\T[0]?=some (.pointer (some ⟨Z.Wg,0,none⟩))/\Kn Z none w0 w
theorem Kn.RD{w0 w w₁:aB}(h:Kn Z none w0 w)(r:R0 Z x w w₁):Kn Z none w0 w₁:=h.rely ⟨r.size,r.jQ,λb hb=>(by cases hb),r.live,r.AZ⟩
abbrev fD:=@Kn.RD
def Jk{w w₁:aB}(_:True)(_:qD w w₁):True:=trivial
theorem b8h(hZ:lZ Z)(H:WgLib Z.P L)(hty:Z.ty=L.tWg){w0:aB}(g:iY)(w:aB)(h:Wj Z L w0 (b₀.at a₀ (.inRegion ops₀ (i₀::rest₀)::k₀)) cs g w):
 ∃T,W0 Z (AtW1 Z (Wp Z.P (G (b₀.at (a₀.put ((ops₀[i₀]?).bind (·.dst)) (.tuple #[])) (.inRegion ops₀ rest₀::k₀)) cs)) (Wj Z L w0 (b₀.at a₀ (.inRegion ops₀ (i₀::rest₀)::k₀)) cs)) T x g w:=by
 lib_facts;obtain⟨T,rfl,hT84,t0,Gn⟩:=h;obtain⟨v0,v1,v2,v3,v4,v5,v6,v7,v8,v9,v10,v11,v12,v13,v14,v15,v16,v17,v18,v19,v20,v21,v22,v23,v24,v25,v26,v27,v28,v29,v30,v31,v32,v33,v34,v35,v36,v37,v38,v39,v40,v41,v42,v43,v44,v45,v46,v47,v48,v49,v50,v51,v52,v53,v54,v55,v56,v57,v58,v59,v60,v61,v62,v63,v64,v65,v66,v67,v68,v69,v70,v71,v72,v73,v74,v75,v76,v77,v78,v79,v80,v81,v82,v83,rfl⟩:=array84 T hT84;clear hT84;simp only[jh,eK,dO] at t0;subst t0;have hF:Kn Z none w w:=⟨iU Z none w,Gn.2⟩;have back:∀w',Kn Z none w w'->Kn Z none w0 w':=λw' h=>Gn.rely h.1;clear Gn;refine vC (n:=30) ?_;simp only[L7,body_wait,waitFn,aG];iterate 6 (first|w_go fD|u_cnd true fD hF|u_cnd false fD hF)
 u_call H.f_uLoad (nm_uLoad L) uLoadFn fD hF
 iterate 9 (first|w_go fD|u_cnd true fD hF|u_cnd false fD hF)
 refine Goes.stop (λw₁ h₁=>?_);replace hF:=fD hF h₁;clear h₁;refine⟨rfl,λv hv hw=>?_⟩;rcases gK v with rfl|hvp
 ·replace hw:WgAt Z.ty Z.Wg w₁ 0 0:=by simpa using hw
  refine⟨_,stepG_load_atomic (v:=0) rfl rfl (by k_ne) rfl H.f_loadU64 (x_loadU64_n L) (x_loadU64_b L) (x_loadU64_x L) .u64 (x_loadU64_f L) rfl hw.cellSt,λ_=>vC (n:=50) ?_,λh=>absurd rfl h⟩;clear hw;walk_nrm;iterate 3 (first|w_go fD|u_cnd true fD hF|u_cnd false fD hF)
  u_leave1 H.f_uLoad fD hF
  iterate 27 (first|w_go fD|u_cnd true fD hF|u_cnd false fD hF)
  refine Goes.stop (λw₅ h₅=>?_);replace hF:=fD hF h₅;clear h₅;refine⟨rfl,_,stepG_mark0 .enable aZ rfl rfl (by k_ne) rfl H.f_enable (x_enable_n L) (x_enable_b L) (x_enable_x L) (x_enable_f L),vC (n:=12) ?_⟩;walk_nrm;iterate 3 (first|w_go fD|u_cnd true fD hF|u_cnd false fD hF)
  u_in fD hF
  refine goes_oper_k rfl rfl (by k_ne) (λKx hKx=>?_);have hc1:=(WgLive.cell0 hF.2).choose_spec;have hcv:=run_convert_to_unsafe (P:=Z.P) H.underlying_tWgP H.underlying_tUP H.room_tWg hc1;have hce:=λes=>events_convert_to_unsafe (P:=Z.P) H.underlying_tWgP H.underlying_tUP H.room_tWg hc1 es;go_simp
  refine hKx _ _ ⟨?_,?_⟩
  ·u_none
   intro ex hex;have hmx:=mem_listed hex;simp[go_sem,hce] at hmx
  clear hKx Kx hcv hce hc1;refine Goes.stop (λw₆ h₆=>?_);replace hF:=fD hF h₆;clear h₆;refine⟨rfl,_,stepG_markAt .acquire aZ rfl rfl (by k_ne) rfl H.f_acquire (x_acquire_n L) (x_acquire_b L) (x_acquire_x L) (x_acquire_f L) (by simp[Act.eval,stA]),rfl,?_⟩;unfold Wp;clear hF;have hF:True:=trivial;walk_nrm;iterate 19 (first|w_go Jk|u_cnd true Jk hF|u_cnd false Jk hF)
  u_leave0 H.f_wait Jk hF
  exact Goes.stop λ_ _=>rfl
 ·obtain⟨S,hS⟩:∃S:Int,(v:Int)*KK=S:=⟨_,rfl⟩;have a1:S/4294967296=(v:Int):=by rw[<-hS];simp only[KK];omega
  have b1:bits .and .u64 S 2147483648=0:=by rw[<-hS];have:=Go.ConcN.st_flag v 0 aj aj;simpa [KK] using this
  have b2:bits .and .u64 S 2147483647=0:=by rw[<-hS];have:=Go.ConcN.st_waiters v 0 aj aj;simpa [KK] using this
  have c1:IntKind.i32.wrap (v:Int)=(v:Int):=by rw[IntKind.wrap_i32];omega
  have w1:IntKind.u64.wrap (S+1)=S+1:=by rw[IntKind.wrap_u64,<-hS];simp only[KK];omega
  have q3:decide ((v:Int)<0)=false:=aK aj;have q4:decide (0<(v:Int))=true:=aN aj;have q5:((v:Int)==0)=false:=iw
  have q6:decide ((v:Int)=0)=false:=aK aj;rw[hS] at hw;refine⟨_,stepG_load_atomic (v:=S) rfl rfl (by k_ne) rfl H.f_loadU64 (x_loadU64_n L) (x_loadU64_b L) (x_loadU64_x L) .u64 (x_loadU64_f L) rfl hw.cellSt,λh0=>absurd h0 aj,λ_=>vC (n:=60) ?_⟩;clear hw;walk_nrm;iterate 3 (first|w_go fD|u_cnd true fD hF|u_cnd false fD hF)
  u_leave1 H.f_uLoad fD hF
  iterate 32 (first|w_go fD|u_cnd true fD hF|u_cnd false fD hF)
  u_call H.f_uCas (nm_uCas L) uCasFn fD hF
  iterate 11 (first|w_go fD|u_cnd true fD hF|u_cnd false fD hF)
  refine Goes.stop (λw₂ h₂=>?_);replace hF:=fD hF h₂;clear h₂;refine⟨rfl,λv' hv' hw=>⟨λe=>?_,λe=>?_⟩⟩
  ·subst e;rw[hS] at hw⊢;refine⟨_,(stepG_cas_hit (v:=S) (n:=S+1) rfl rfl (by k_ne) rfl H.f_casU64 (x_casU64_n L) (x_casU64_b L) (x_casU64_x L) .u64 (x_casU64_f L) rfl rfl rfl hw.cellSt (hw.thaw 0)).trans rfl,Zd (n:=70) ?_⟩;replace hF:=Kn.set hZ aZ hF (stA Z.Wg) rfl (.int .u64 (S+1)) ⟨_,_,hw.setSt _⟩;clear hw;walk_nrm;iterate 3 (first|w_go fD|u_cnd true fD hF|u_cnd false fD hF)
   u_leave1 H.f_uCas fD hF
   iterate 15 (first|w_go fD|u_cnd true fD hF|u_cnd false fD hF)
   u_in fD hF
   refine goes_oper_k rfl rfl (by k_ne) (λKx hKx=>?_);have hc1:=(WgLive.cell1 hF.2).choose_spec;have hcv:=run_convert_to_unsafe (P:=Z.P) H.underlying_tPU32 H.underlying_tUP H.room_tU32 hc1;have hce:=λes=>events_convert_to_unsafe (P:=Z.P) H.underlying_tPU32 H.underlying_tUP H.room_tU32 hc1 es;go_simp
   refine hKx _ _ ⟨?_,?_⟩
   ·u_none
    intro ex hex;have hmx:=mem_listed hex;simp[go_sem,hce] at hmx
   clear hKx Kx hcv hce hc1;refine Goes.stop (λw₉ h₉=>?_);replace hF:=fD hF h₉;clear h₉;refine mf rfl ⟨_,.inr rfl,rfl⟩ (λw=>stepG_markAt (ad:=⟨Z.Wg,1,none⟩) .write aZ rfl rfl (by k_ne) rfl H.f_raceWrite (x_raceWrite_n L) (x_raceWrite_b L) (x_raceWrite_x L) (x_raceWrite_f L) (by simp[Act.eval]<;>rfl)) (λw₈ h₈=>vC (n:=60) ?_);replace hF:=fD hF h₈;clear h₈;walk_nrm;iterate 23 (first|w_go fD|u_cnd true fD hF|u_cnd false fD hF)
   refine Goes.stop (λw₃ h₃=>?_);replace hF:=fD hF h₃;clear h₃;refine⟨rfl,rfl,λ⟨st,hw⟩=>stepG_semacquire_wait rfl rfl rfl H.f_semacquire (x_semacquire_n L) (x_semacquire_b L) (x_semacquire_x L) (x_semacquire_f L) (by simp[Act.eval,smA]) hw.cellSm,λhf=>?_⟩;refine⟨_,(stepG_semacquire (n:=1) rfl rfl (by k_ne) rfl H.f_semacquire (x_semacquire_n L) (x_semacquire_b L) (x_semacquire_x L) (x_semacquire_f L) (by simp[Act.eval,smA]) hf.cellSm (by k_ne) (hf.thaw 1)).trans rfl,vC (n:=30) ?_⟩;replace hF:=Kn.set hZ aZ hF (smA Z.Wg) rfl (.int .u32 0) ⟨_,_,hf.setSm 0⟩;clear hf;walk_nrm;iterate 6 (first|w_go fD|u_cnd true fD hF|u_cnd false fD hF)
   u_call H.f_uLoad (nm_uLoad L) uLoadFn fD hF
   iterate 9 (first|w_go fD|u_cnd true fD hF|u_cnd false fD hF)
   refine Goes.stop (λw₄ h₄=>?_);replace hF:=fD hF h₄;clear h₄;refine⟨rfl,λhw=>⟨_,stepG_load_atomic (v:=0) rfl rfl (by k_ne) rfl H.f_loadU64 (x_loadU64_n L) (x_loadU64_b L) (x_loadU64_x L) .u64 (x_loadU64_f L) rfl hw.cellSt,vC (n:=30) ?_⟩⟩;walk_nrm;iterate 3 (first|w_go fD|u_cnd true fD hF|u_cnd false fD hF)
   u_leave1 H.f_uLoad fD hF
   iterate 7 (first|w_go fD|u_cnd true fD hF|u_cnd false fD hF)
   refine Goes.stop (λw₅ h₅=>?_);replace hF:=fD hF h₅;clear h₅;refine⟨rfl,_,stepG_mark0 .enable aZ rfl rfl (by k_ne) rfl H.f_enable (x_enable_n L) (x_enable_b L) (x_enable_x L) (x_enable_f L),vC (n:=12) ?_⟩;walk_nrm;iterate 3 (first|w_go fD|u_cnd true fD hF|u_cnd false fD hF)
   u_in fD hF
   refine goes_oper_k rfl rfl (by k_ne) (λKx hKx=>?_);have hc1:=(WgLive.cell0 hF.2).choose_spec;have hcv:=run_convert_to_unsafe (P:=Z.P) H.underlying_tWgP H.underlying_tUP H.room_tWg hc1;have hce:=λes=>events_convert_to_unsafe (P:=Z.P) H.underlying_tWgP H.underlying_tUP H.room_tWg hc1 es;go_simp
   refine hKx _ _ ⟨?_,?_⟩
   ·u_none
    intro ex hex;have hmx:=mem_listed hex;simp[go_sem,hce] at hmx
   clear hKx Kx hcv hce hc1;refine Goes.stop (λw₆ h₆=>?_);replace hF:=fD hF h₆;clear h₆;refine⟨rfl,_,stepG_markAt .acquire aZ rfl rfl (by k_ne) rfl H.f_acquire (x_acquire_n L) (x_acquire_b L) (x_acquire_x L) (x_acquire_f L) (by simp[Act.eval,stA]),rfl,?_⟩;unfold Wp;clear hF;have hF:True:=trivial;walk_nrm;iterate 9 (first|w_go Jk|u_cnd true Jk hF|u_cnd false Jk hF)
   u_leave0 H.f_wait Jk hF
   exact Goes.stop λ_ _=>rfl
  ·refine⟨_,stepG_cas_miss (v:=(v':Int)*KK) (old:=S) (n:=S+1) rfl rfl (by k_ne) rfl H.f_casU64 (x_casU64_n L) (x_casU64_b L) (x_casU64_x L) .u64 (x_casU64_f L) rfl rfl rfl hw.cellSt (hw.thaw 0) (by rw[<-hS];simp only[KK];omega),vC (n:=20) ?_⟩;clear hw;walk_nrm;iterate 3 (first|w_go fD|u_cnd true fD hF|u_cnd false fD hF)
   u_leave1 H.f_uCas fD hF
   iterate 5 (first|w_go fD|u_cnd true fD hF|u_cnd false fD hF)
   refine Goes.stop (λw₃ h₃=>?_);exact⟨_,rfl,aZ,aZ,back _ (fD hF h₃)⟩
theorem b8i(H:WgLib Z.P L)(hty:Z.ty=L.tWg){w0 w:aB}(hF:Kn Z none w0 w):
 ∃T,W0 Z (AtKd Z (Wj Z L w0 (b₀.at a₀ (.inRegion ops₀ (i₀::rest₀)::k₀)) cs)) T none (G ((base L.wait).at ⟨#[.pointer (some ⟨Z.Wg,0,none⟩)]++Array.replicate 83 undef,[]⟩ [.code (body_wait L)]) (b₀.at a₀ (.inRegion ops₀ (i₀::rest₀)::k₀)::cs)) w:=by
 lib_facts;refine vC (n:=3) ?_;simp only[body_wait,waitFn,aG];walk_nrm;iterate 3 (first|w_go gW|u_cnd true gW hF|u_cnd false gW hF)
 refine Goes.stop (λw₁ h₁=>?_);replace hF:=gW hF h₁;clear h₁;refine⟨rfl,_,stepG_mark0 .disable aZ rfl rfl (by k_ne) rfl H.f_disable (x_disable_n L) (x_disable_b L) (x_disable_x L) (x_disable_f L),vC (Stop:=λ_=>Wj Z L w0 _ cs) (n:=3) ?_⟩;walk_nrm;iterate 3 (first|w_go gW|u_cnd true gW hF|u_cnd false gW hF)
 exact Goes.stop (λw₂ h₂=>⟨_,rfl,aZ,aZ,gW hF h₂⟩)
end
section
variable[Go.ConcR.Payload]{Z:Pz}{x:Option Nat}{Stop:Option Nat->Goroutine->World->Prop}{b:Frame}{a:Act}{k:List Item}{cs:List Frame}{w:World}{g g':Goroutine}
def md{a:aB}(h:∃T,W0 Z Stop T x g w)(r:R0 Z x w a):∃T,W0 Z Stop T x g a:=let ⟨T,h⟩:=h;⟨T,.rely (λ_ _ _ _ c b=>.trans Z c b) h r⟩
def c66(w:aB):D0 Z x x w w #[]:=mi<|aZ
def J8(b:g.status=.running)(h:∀w,stepG Z.P true g w=.go g' w)(d:∃T,W0 Z Stop T x g' w):∃T,W0 Z Stop T x g w:=
 Wk.step b λa r=>let ⟨T,c⟩:=md d r;⟨g',a,#[],x,T,h a,c66 a,c⟩
def l_(b:g.status=.running)(h:∀a,R0 Z x w a->∃g' w' es c,stepG Z.P true g a=.go g' w' es/\D0 Z x c a w' es/\∃T,W0 Z Stop T c g' w'):∃T,W0 Z Stop T x g w:=
 Wk.step b λa r=>let ⟨g',w',es,c,e,f,T,d⟩:=h a r;⟨g',w',es,c,T,e,f,d⟩
theorem lL{ops:Array Oper}{rest:List Nat}{f:FuncId}{fn:Func}{c:Code}{args:Array Operand}{ats:Array TypeId}(r:ops[i]?=some o)(p:Region.wanted o (yielded ops a.tmps)=true)(s:b.kind≠.early)
 (l:o.op=.call {callee:=.value (.func f),args,argTypes:=ats})(t:Z.P.funcs[f]?=some fn)(g:(fn.name== "runtime.NumGoroutine")=false)(u:fn.body=some c)
 (h:∃T,W0 Z Stop T x (G ((base f).at {tmps:=args.map a.eval++Array.replicate (fn.ntmps - (args.map a.eval).size) undef,defers:=[]} [.code c]) (b.at a (.inRegion ops (i::rest)::k)::cs)) w):
 ∃T,W0 Z Stop T x (G (b.at a (.inRegion ops (i::rest)::k)) cs) w:=by
 refine J8 rfl (λd=>?_) h;let⟨g',n,m,e,q⟩:=goes_elim (goes_call (K:=λg' n m=>g'=_/\n=d/\m=#[]) r p s l t g u ⟨rfl,rfl,rfl⟩:(stepG _ true (G (b.at a<|.inRegion _ (i::rest)::k) cs) d).goes _);grind
theorem MC{ops:Array Oper}{rest:List Nat}(g:ops[i]?=some o)(f:Region.wanted o (yielded ops a.tmps)=true)(m:b.kind≠.early)(j:∀w,(execOp a.eval o).run Z.P w=.ok (.value v) w)
 (l:∀w,(execOp a.eval o).events Z.P w #[]=#[])(h:∃T,W0 Z Stop T x (G (b.at (a.put o.dst v) (.inRegion ops rest::k)) cs) w):∃T,W0 Z Stop T x (G (b.at a (.inRegion ops (i::rest)::k)) cs) w:=by
 refine J8 rfl (λc=>?_) h;rw[stepG_value g f m (j c)];have e:listed Z.P b.fn a o c=#[]:=by unfold listed;rw[l c];rfl
 rw[e]
theorem fi{ops:Array Oper}{rest:List Nat}(g:ops[i]?=some o)(f:Region.wanted o (yielded ops a.tmps)=true)(n:b.kind≠.early)
 (h:∀c,R0 Z x w c->∃v w' d,(execOp a.eval o).run Z.P c=.ok (.value v) w'/\D0 Z x d c w' (listed Z.P b.fn a o c)/\∃T,W0 Z Stop T d (G (b.at (a.put o.dst v) (.inRegion ops rest::k)) cs) w'):
 ∃T,W0 Z Stop T x (G (b.at a (.inRegion ops (i::rest)::k)) cs) w:=by
 refine l_ rfl λc r=>?_;let⟨v,w',d,l,m,j⟩:=h c r;exact⟨_,w',_,d,stepG_value g f n l,m,j⟩
theorem c67{ops:Array Oper}{rest:List Nat}(g:ops[i]?=some o)(f:Region.wanted o (yielded ops a.tmps)=true)(n:b.kind≠.early)
 (h:∀c,R0 Z x w c->∃w' d,(execOp a.eval o).run Z.P c=.ok .skip w'/\D0 Z x d c w' (listed Z.P b.fn a o c)/\∃T,W0 Z Stop T d (G (b.at (a.put o.dst undef) (.inRegion ops rest::k)) cs) w'):
 ∃T,W0 Z Stop T x (G (b.at a (.inRegion ops (i::rest)::k)) cs) w:=by
 refine l_ rfl λc r=>?_;let⟨w',d,l,m,j⟩:=h c r;exact⟨_,w',_,d,stepG_none g f n l,m,j⟩
def c68(h:∀a,R0 Z x w a->Stop x g a):∃T,W0 Z Stop T x g w:=⟨.leaf,.stop h⟩
theorem J5{ds:List Deferred}(h:T[i]?=some v):Act.eval ⟨T,ds⟩ (.tmp i)=v:=by show T.getD i _=v;simp_all
theorem D8(h:T[i]?=some v)(a:j≠i):(T.setIfInBounds j u)[i]?=some v:=by grind
theorem zx(h:i<T.size):(T.setIfInBounds i u)[i]?=some u:=by grind
end
end Go.Mw
namespace Go.Zn
open Go.Made
section
structure ZB where
 F:FuncId->Bool
 T:TypeId->Bool
 N:String->Bool
 G:Nat
def ZB.zone(B:ZB):Zone:={D:=λb=>b<=B.G,F:=λf=>B.F f=true,T:=λt=>B.T t=true,N:=λn=>B.N n=true,Y:=λ_=>False}
variable(B:ZB)
def PD:Fn->Bool
 | .func f=>B.F f
 | .method n=>B.N n
 | _=>false
def xA:Nat->Value->Bool
 | 0,_=>false
 | n+1,v=>match v with
  | .bool _|.int .. | .float .. | .complex .. | .string _|.pointer none|.slice none _ _|.map none|.chan none|.nilFunc|.nilIface=>true
  | .pointer (some a)=>decide (a.block<=B.G)
  | .func b f c=>PD B b&&f.toList.all (xA n)&&c.toList.all (xA n)
  | .iface t v=>B.T t&&xA n v
  | .agg c|.tuple c=>c.toList.all (xA n)
  | _=>false
def PL:Operand->Bool
 | .tmp _=>true
 | .const v=>xA B 8 v
 | .global g=>decide (g<=B.G)
 | .func f=>B.F f
def ut:Callee->Bool
 | .invoke _ n=>B.N n
 | .builtin b=>Zb b
 | .value _=>true
def c9V:Op->Bool
 | .makeInterface t _=>B.T t
 | .makeFunc a _ _=>PD B a
 | .call c=>ut B c.callee
 | .go _|.defer _|.send .. | .recv .. | .select .. | .makeChan .. | .ready _|.waits _|.mapEntry .. | .entryStore .. | .sliceToArrayPointer ..=>false
 | _=>true
def VA(o:Op):Bool:=c9V B o&&o.operands.toList.all (PL B)
def nU:Code->Bool
 | .seq a b=>nU a&&nU b
 | .cond _ a b=>nU a&&nU b
 | .block _ b=>nU b
 | .loop b=>nU b
 | .scope b=>nU b
 | .region _ e _=>e.toList.all λo=>VA B o.op
 | .rangeFunc f _ c d=>PL B f&&nU c&&nU d
 | _=>true
variable{B}
theorem PD.sound{f:Fn}(h:PD B f=true):AU B.zone f:=by
 cases f with
 | func f=>exact .func f h
 | method n=>exact .method n h
 | _=>cases h
theorem xA.sound:∀(n:Nat)(v:aX),xA B n v=true->VP B.zone v:=by
 intro n
 induction n with
 | zero=>intro v h;cases h
 | succ n d=>
  have b:∀c:dU,c.toList.all _=true->∀x∈c,VP B.zone x:=λc g x i=>d x (aU.1 g x<|iL);intro v h;unfold xA at h;split at h<;>first|(constructor;done)|skip
  rename_i a;exact .ptr a (dJ h:a.block<=B.G)
  rename_i e f c;simp only[aI] at h;exact .func e f c (PD.sound h.1.1) (b f h.1.2)<|b c h.2
  rename_i t v;simp at h;exact .iface t v h.1<|d v h.2
  exact .agg _<|b _ h
  exact .tuple _<|b _ h
  cases h
theorem PL.sound{x:Operand}(h:PL B x=true):LC B.zone x:=by
 cases x with
 | tmp=>trivial
 | const=>exact xA.sound _ _ h
 | global g=>exact(dJ h:g<=B.G)
 | func=>exact h
theorem VA.sound{o:Op}(h:VA B o=true):MV B.zone o:=by
 unfold VA at h;simp only[aI] at h;refine⟨?_,λx d=>PL.sound (aU.1 h.2 x<|iL)⟩;have a:=h.1;cases o<;>first|trivial|(exact PD.sound a)|skip
 rename_i c;show WJ _ _;have b:ut B _=true:=a;cases e:c.callee<;>rw[e] at b<;>trivial
theorem nU.sound:∀{c:Code},nU B c=true->gV B.zone c:=by
 intro c
 induction c with
 | seq a b e d=>intro h;simp[nU,aI] at h;exact⟨e h.1,d h.2⟩
 | cond _ a b e d=>intro h;simp[nU,aI] at h;exact⟨e h.1,d h.2⟩
 | block=>assumption
 | loop=>assumption
 | scope=>assumption
 | region=>intro h o j;exact VA.sound (aU.1 kT o<|iL)
 | rangeFunc f _ a b e d=>intro h;simp[nU,aI] at h;exact⟨PL.sound h.1.1,e h.1.2,d h.2⟩
 | _=>intro _;trivial
end
section
variable{Z:Zone}
def pF(Z:Zone)(i:TypeInfo):Prop:=∀z,i.zero=some z->VP Z z
theorem c2i{α β:Type}(P:β->Prop)(f:α->β->Option (ForInStep β))(k:∀a b s,P b->f a b=some s->P (match s with|.yield b=>b|.done b=>b)):
 ∀(l:List α)(b d:β),P b->forIn l b f=some d->P d:=by
 intro l
 induction l with
 | nil=>intro b d h e;simp at e;exact e▸h
 | cons a l j=>
  intro b d h e;rw[ru] at e
  cases g:f a b with
  | none=>rw[g] at e;cases e
  | some s=>
   rw[g] at e;have:=k a b s h g
   cases s with
   | yield i=>exact j i d this e
   | done i=>simp at e;exact e▸this
theorem Qb{d:TypeDesc}{s:String}{z:aX}{c:Bool}{n:Nat}(h:VP Z z):pF Z (word d s z c n)/\(word d s z c n).methods=#[]:=⟨λa e=>by simp[word] at e;grind,rfl⟩
theorem c2j{k:TypeId->Option TypeInfo}(D:∀t i,k t=some i->pF Z i){n:Array Field}{i:TypeInfo}(h:reckonStruct k n=some i):pF Z i/\i.methods=#[]:=by
 unfold reckonStruct at h;simp only[bind,b_] at h;obtain⟨a,u,l⟩:=h;rw[<-lq] at u;have o:∀g,a.2.2.2.2.2.2.2.1=some g->AP Z g:=by
  refine c2i (P:=λb=>∀g,b.2.2.2.2.2.2.2.1=some g->AP Z g) _ ?_ _ _ _ ?_ u
  ·intro f b s A e;obtain⟨i,p,e⟩:=b_.1 e;have C:=D _ _ p;have m:∀g,(if b.2.1+i.size>mostCells then none else b.2.2.2.2.2.2.2.1.bind λx=>i.zero.bind λy=>pure (x++y.cells))=some g->AP Z g:=by
    intro g h;split at h
    ·cases h
    ·obtain⟨x,B,h⟩:=b_.1 h;obtain⟨y,v,h⟩:=b_.1 h;injection h with h;subst h;exact(A x B).append (C y v).cells
   by_cases q:i.str.isEmpty=true
   ·rw[if_pos q] at e;simp at e
   rw[if_neg q] at e;by_cases r:f.embedded=true
   ·simp[r] at e
   rw[if_neg r] at e;have j:∀d,(λd:String=>if i.bytes=0 then pure (f:=Option) (ForInStep.yield (b.1.push {name:=f.name,type:=f.type,offset:=b.2.1,embedded:=f.embedded,tag:=f.tag,pkgPath:=f.pkgPath,byteOffset:=roundUp b.2.2.1 i.align},b.2.1+i.size,roundUp b.2.2.1 i.align+i.bytes,max b.2.2.2.1 i.align,roundUp b.2.2.1 i.align+i.bytes,b.2.2.2.2.2.1||i.hasPointers,b.2.2.2.2.2.2.1&&i.comparable,(if b.2.1+i.size>mostCells then none else b.2.2.2.2.2.2.2.1.bind λx=>i.zero.bind λy=>pure (x++y.cells)),b.2.2.2.2.2.2.2.2++ " "++f.name++ " "++i.str++d++if b.1.size+1<n.size then ";" else "")) else pure (ForInStep.yield (b.1.push {name:=f.name,type:=f.type,offset:=b.2.1,embedded:=f.embedded,tag:=f.tag,pkgPath:=f.pkgPath,byteOffset:=roundUp b.2.2.1 i.align},b.2.1+i.size,roundUp b.2.2.1 i.align+i.bytes,max b.2.2.2.1 i.align,b.2.2.2.2.1,b.2.2.2.2.2.1||i.hasPointers,b.2.2.2.2.2.2.1&&i.comparable,(if b.2.1+i.size>mostCells then none else b.2.2.2.2.2.2.2.1.bind λx=>i.zero.bind λy=>pure (x++y.cells)),b.2.2.2.2.2.2.2.2++ " "++f.name++ " "++i.str++d++if b.1.size+1<n.size then ";" else ""))) d=some s->(match s with|.yield b=>∀g,b.2.2.2.2.2.2.2.1=some g->AP Z g|.done b=>∀g,b.2.2.2.2.2.2.2.1=some g->AP Z g):=by intro d h;dsimp only at h;split at h<;>(injection h with h;subst h;exact m)
   split at e
   ·obtain⟨d,_,e⟩:=b_.1 e;cases s<;>exact j d e
   ·obtain⟨d,_,e⟩:=b_.1 e;cases s<;>exact j d e
  ·intro g h;injection h with h;subst h;exact kU
 split at l<;>(injection l with l;subst l;refine⟨λz h=>?_,rfl⟩;obtain⟨c,w,rfl⟩:=bC.1 h;exact .agg _ (o c w))
theorem c2k{a:TypeId->Option TypeInfo}(f:∀t i,a t=some i->pF Z i){d:TypeDesc}{i:TypeInfo}(h:reckon a d=some i):pF Z i/\i.methods=#[]:=by
 cases d with
 | pointer e=>
  simp[reckon,bind,b_] at h;let⟨j,_,h⟩:=h;split at h
  cases h
  split at h
  cases h
  let⟨s,_,h⟩:=b_.1 h;injection h with h;subst h;exact Qb .kK
  let⟨s,_,h⟩:=b_.1 h;injection h with h;subst h;exact Qb .kK
 | slice e=>
  simp only[reckon,bind,b_] at h;let⟨j,_,s,_,h⟩:=h
  injection h with h;subst h;exact Qb (.jv _ _)
 | map=>
  simp only[reckon,bind,b_] at h;let⟨j,_,s,_,w,_,r,_,h⟩:=h
  injection h with h;subst h;exact Qb .FV
 | chan=>
  simp only[reckon,bind,b_] at h;let⟨j,_,s,_,h⟩:=h
  injection h with h;subst h;exact Qb .Ls
 | func=>
  simp only[reckon,bind,b_] at h;let⟨s,_,h⟩:=h
  injection h with h;subst h;exact Qb .nilFunc
 | array=>
  simp only[reckon,bind,b_] at h;let⟨j,o,s,_,h⟩:=h;injection h with h;subst h;refine⟨λz h=>?_,rfl⟩;dsimp at h;split at h
  cases h
  split at h
  injection h with h;subst h;exact .agg _ kU
  obtain⟨p,c,rfl⟩:=bC.1 h;refine .agg _ λx b=>?_;simp[Array.mem_flatten,Array.mem_replicate] at b;obtain⟨l,⟨_,rfl⟩,b⟩:=b
  exact (f _ _ o p c).cells x b
 | struct=>exact c2j f h
 | _=>cases h
theorem xF{T:Tables}(g:∀(t:Nat)(i:TypeInfo),T.types[t]?=some i->pF Z i):∀f t i,Made.infoAt T f t=some i->pF Z i/\(T.types.size<=t->i.methods=#[])
 | 0,_,_,h=>by cases h
 | f+1,t,i,h=>by
  unfold Made.infoAt at h;split at h
  rename_i e;exact⟨g t i h,λc=>absurd e<|Nat.not_lt.mpr c⟩
  let⟨d,_,h⟩:=b_.1 h;have:=c2k (λt i h=>(xF g f t i h).1) h;grind
theorem sK{T:Tables}(c:∀(t:Nat)(i:TypeInfo),T.types[t]?=some i->pF Z i){t:bT}{i:TypeInfo}(h:T.info? t=some i):pF Z i/\(T.types.size<=t->i.methods=#[]):=by
 unfold Tables.info? at h;split at h
 rename_i b;exact⟨c t i h,λa=>absurd b<|Nat.not_lt.mpr a⟩
 exact xF c _ t i h
theorem uz{T:Tables}{t:bT}(a:t<T.types.size){i:TypeInfo}(h:T.info? t=some i):T.types[t]?=some i:=by unfold Tables.info? at h;grind
end
end Go.Zn
namespace Go.To
open Go.Conc
section
open Go.ConcR (WgAt stA)
open Go.ConcN (sumTo WD ShN Vc Ssum phi CTag)
open Zn (tp jJ)
open Mc (Pz lZ Shun Au CQ Gy Az oO nX Fin Spawns W0 AtW1 Done)
def at_(Z:Pz)(c:Nat):Pz:={Z with c:=c}
variable[Go.ConcR.Payload][Lo]{Z:Pz}{Cont AnchW:Goroutine->World->Prop}{g:Goroutine}{w:World}{Sh:Nat->Prop}{Ψ:Goroutine->World->(Nat->Prop)->Prop}{B:Nat}
theorem c61{l:Loc}{B:Nat}(h:Au Z l)(c:B<=Z.Wg)(b:B<=Z.Al):¬l.low B:=by
 cases l with
 | cell a=>
  intro(d:a.block<B)
  obtain h|h:=h<;>omega
 | _=>trivial
theorem pG.phase(hc:Z.c=0)(hZ:∀c,0<c->lZ (at_ Z c))(hn:Z.n<2147483648)(P:Z.zD=Tr Sh)(X:B<=Z.L0)(Q:B<=Z.Wg)(hBA:B<=Z.Al)(hsz:Z.L0<=w)
 (hal:oO Z w)(hcb:nX Z w)(hwg:WgAt Z.ty Z.Wg w 0 0)
 (hAr:∀g w,AnchW g w->g.status=.running)(hAn:∀c,0<c->∀x g w,AnchW g w->∃T,W0 (at_ Z c) (AtW1 (at_ Z c) Cont AnchW) T x g w)
 (hst:∀c τ p,0<c->Spawns (at_ Z c) (Fin (at_ Z c) AnchW) Z.n none g (tp w τ p))
 (G:∀(w':aB)(g':iY)(O:Nat->Nat->Prop)(bx:Nat->Nat),Cont g' w'->(∀b,Z.oZ b\/Z.zD b->w'.heap[b]?=w.heap[b]?)->(∀i,i<Z.n->Z.ni i (bx i) (O i) w')->(∀i b,O i b->Z.L0<=b/\b<w'.heap.size)->(∀i k b,O i b->O k b->i=k)->
   oO Z w'->nX Z w'->Z.L0<=w'->w'.os=w.os->w'.output=w.output->∃j:tyP,(∀b,Sh b->j b)/\j Z.Wg/\To Z.P g' w' j Ψ):pG Z.P B g w Sh Ψ:=by
 intro τ p d sl t q h0 A;have n:0<d.size:=(bn.1 h0).1;have YF:=hZ d.size n;have eS:Shun (at_ Z d.size)=Aw Sh:=by
  funext l
  cases l with
  | cell a=>exact congrFun P a.block
  | obj r=>exact congrFun P r
  | _=>rfl
 have hp:Past _ B t:=eS▸A.past;have U:Mc.Com (at_ Z d.size) t (tp w τ p) 0 d (tp w τ p) t (λ_=>⟨7,0,0⟩) (λ_ _=>False) (λ_=>Z.e0) (λ_=>.leaf) q 0 none:=by
  refine⟨rfl,λi y m _ hy=>A.L.old i y m hy,λi m=>absurd m<|aj,⟨hsz,λ_ _ h=>h.elim,λ_ _ _ h=>h.elim,λ_ _ _ h=>h,λ_ _ _ h=>h.elim,λ_ _ h=>h.elim,λ_=>.inl YF.e0,λ_ h=>by cases h⟩,?_,?_,A.past.hears,λi m=>absurd m<|aj,λi m=>absurd m<|aj,λ_ _=>rfl,hal,hcb,(λC D=>MemAct.low_mono aj<|A.past.seen C D:∀C∈t,C.act.low w),⟨#[],aZ,aZ⟩,rfl,rfl,rfl⟩
  refine Mc.CT.init n hp (λl R=>?_) (λl R=>c61 R Q hBA) A.gsb;unfold CQ at R
  exact⟨λh=>R<|.inl h,iL⟩
  intro i m;obtain⟨C,D,ho⟩:=bC.1<|m;have:=A.past.seen C<|Array.mem_of_getElem? D;rw[ho] at this;have H:(stA Z.Wg).block<B:=this;have h2:(stA Z.Wg).block=Z.Wg:=rfl;omega
 have V:∀z T0,Mc.CS (at_ Z d.size) Cont AnchW z 0 T0 0 none g (tp w τ p)->ConcN.Mode 0 (λ_=>(⟨7,0,0⟩:WD)) z 0 0->
  ∃N E w' sl' I q' j g' τ' p',runNT Z.P N (crowd d (tp w τ p) sl) t=(.next<|crowd E (tp w' τ' p') sl',I)/\E[0]?=some g'/\Ctx Z.P j E I q' w'.heap.size/\Ψ g' w' j:=by
  intro z T0 hcs hm;obtain⟨N,m',I,hr,hd⟩:=Mc.vP YF hp X hn hAr (hAn d.size n) _ _ _ ⟨d,tp w τ p,sl,0,_,_,_,_,q,z,T0,0,none,g,0,0,rfl,h0,hcs,U,hwg,hm,rfl⟩;obtain⟨J,w1,sl1,q1,g1,O,bx1,rfl,hs1,s,hrun1,F,hL1,v,K,L,hO,hOd,oj,ob,Y,htape,S,W,hgb⟩:=hd;obtain⟨j,hS1,hS2,hto⟩:=G w1 g1 O bx1 F K L hO hOd oj ob Y S W;obtain⟨M,gs2,w2,sl2,t2,q2,ez,g2,τ2,p2,k1,k2,k3,k4⟩:=hto w1.tape w1.drawn J sl1 I q1 s (by
   refine⟨hL1,⟨v.clean,λi a ha hm=>(v.known i a ha hm).imp id λ⟨H,h2⟩=>⟨?_,h2⟩,v.over,v.hears,v.seen⟩,λi C m=>by rw[hs1];exact hgb i C m,ay A.lo<|ay X Y⟩;obtain H|⟨ad,H,h3⟩:=H
   rw[eS] at H;revert H;cases a.loc<;>first|exactλh=>⟨h.1,hS1 _ h.2⟩|exact id
   rw[H];show Tr j ad.block;rw[h3];exact⟨ay A.lo Q,hS2⟩);exact⟨N+M,gs2,w2,sl2,t2,q2,ez,g2,τ2,p2,by rw[runNT_add,show runNT Z.P N _ t=_ from hr];assumption,k2,k3,k4⟩
 have f:=hst d.size τ p n;have hv:Vc 0 (λ_=>(⟨7,0,0⟩:WD))=0:=rfl
 cases o:Z.n with
 | zero=>
  rw[o] at f;obtain⟨-,T,hk⟩:=f;have e0:(at_ Z d.size).n=0:=o;have u:Mc.CS _ Cont AnchW .kd _ T 0 none g _:=.kd hk;rw[e0] at u;apply V .kd T u;have:=ConcN.Mode.opn (j:=0) (D:=λ_=>⟨7,0,0⟩) (tag:=.kd) trivial (λi m=>absurd m<|aj) (λvs e=>by cases e)
  assumption
 | succ r=>
  rw[o] at f;let⟨T,hk⟩:=f;have e0:(at_ Z d.size).n - (r+1)=0:=by have:(at_ Z d.size).n=r+1:=o;omega
  have u:Mc.CS _ Cont AnchW _ _ T 0 none g _:=.skd (by have:(at_ Z d.size).n=r+1:=o;omega) hk;rw[e0] at u;apply V _ T u;have:=ConcN.Mode.opn (j:=0) (D:=λ_=>⟨7,0,0⟩) (tag:=.sp r 5) trivial (λi m=>absurd m<|aj) (λvs e=>by cases e);simpa [hv,ConcN.pend] using this
end
end Go.To
namespace Go.Mw
open Go.Conc Mc
variable{P:Program}
section
open Go.ConcR (DC0)
theorem c69{γ:Type}{main:Bool}{R:γ->World->World->Prop}{D:γ->γ->World->World->Array Event->Prop}{Stop b:γ->Goroutine->World->Prop}(h:∀x g w,Stop x g w->b x g w):
 ∀{T:Tr}{x:γ}{g:iY}{w:aB},Wk P main R D Stop T x g w->Wk P main R D b T x g w:=by
 intro T
 induction T with
 | leaf=>exactλc a r=>h _ _ _<|c a r
 | node f d=>
  intro x g w c;obtain c|⟨k,c⟩:=c
  exact .inl λa r=>h _ _ _<|c a r
  refine .inr ⟨k,λa r=>?_⟩;let⟨m,i,o,l,e,n,j⟩:=c a r;exact⟨m,i,o,l,e,n,d _ j⟩
variable[Go.ConcR.Payload]{Z:Pz}{x:Option Nat}{Cont qP AnchW qQ:Goroutine->World->Prop}{g:Goroutine}{w:World}
def vw{Stop a:Option Nat->Goroutine->World->Prop}(h:∀x g w,Stop x g w->a x g w)(k:∃T,W0 Z Stop T x g w):∃T,W0 Z a T x g w:=let ⟨T,k⟩:=k;⟨T,c69 h k⟩
section
variable(hC:∀g w,Cont g w->qP g w)
include hC
theorem b8j(h:AtAcq Z Cont x g w):AtAcq Z qP x g w:=let ⟨a,e,b,c,d⟩:=h;⟨a,e,b,c,hC _ _ d⟩
theorem xf(h:AtKe Z Cont x g w):AtKe Z qP x g w:=let ⟨a,d,b,c⟩:=h;⟨a,d,b,vw (λ_ _ _=>b8j hC) c⟩
theorem c1E(h:AtW4 Z Cont x g w):AtW4 Z qP x g w:=let ⟨a,b⟩:=h;⟨a,λy=>let ⟨d,b,c⟩:=b y;⟨d,b,vw (λ_ _ _=>xf hC) c⟩⟩
theorem c1F(h:AtW3 Z Cont x g w):AtW3 Z qP x g w:=let ⟨a,b,c,d⟩:=h;⟨a,b,c,λy=>let ⟨e,b,c⟩:=d y;⟨e,b,vw (λ_ _ _=>c1E hC) c⟩⟩
variable(hA:∀g w,AnchW g w->qQ g w)
include hA
theorem c1G{j:Nat}(h:AtW2 Z Cont AnchW j x g w):AtW2 Z qP qQ j x g w:=by
 let⟨a,b⟩:=h;refine⟨a,λv i f=>⟨λe=>?_,λe=>?_⟩⟩
 let⟨d,b,c⟩:=(b v i f).1 e;exact⟨d,b,vw (λ_ _ _=>c1F hC) c⟩
 let⟨d,b,c⟩:=(b v i f).2 e;exact⟨d,b,vw (λ_ _ _=>hA _ _) c⟩
theorem xe(h:AtW1 Z Cont AnchW x g w):AtW1 Z qP qQ x g w:=by let⟨a,b⟩:=h;refine⟨a,λv j i=>?_⟩;let⟨f,b,c,d⟩:=b v j i;exact⟨f,b,λe=>vw (λ_ _ _=>xf hC)<|c e,λe=>vw (λ_ _ _=>c1G hC hA)<|d e⟩
end
def xd(d:∀g w,AnchW g w->qQ g w)(h:AtKd Z AnchW x g w):AtKd Z qQ x g w:=let ⟨a,e,b,c⟩:=h;⟨a,e,b,vw (λ_ _ _=>d _ _) c⟩
open To Zn in
theorem lz[To.Lo]{S:Goroutine->World->Prop}{Sh:tyP}{Ψ:Goroutine->World->(Nat->Prop)->Prop}:∀{n:Nat}{g:iY}{w:aB},Goes P true qD DC0 S n g w->(∀g',(∃τ p,S g' (Zn.tp w τ p))->To P g' w Sh Ψ)->To P g w Sh Ψ
 | 0,g,w,h,k=>k g ⟨w.tape,w.drawn,h w ⟨w.tape,w.drawn,rfl⟩⟩
 | n+1,g,w,h,k=>by
  rcases h with h|⟨hs,h⟩
  ·exact k g ⟨w.tape,w.drawn,h w ⟨w.tape,w.drawn,rfl⟩⟩
  ·refine To.step hs λτ p=>?_;obtain⟨g',w',es,e,⟨e1,e2⟩,hn⟩:=goes_elim (h (Zn.tp w τ p) ⟨τ,p,rfl⟩);subst e1;subst e2;exact⟨g',_,#[],e,ak _,aZ,(lz hn λg'⟨τ',p',hs'⟩=>(k g' ⟨τ',p',hs'⟩).eU)⟩
open To in
def c7a[To.Lo]{tgt:iY}{Sh:tyP}{Ψ:Goroutine->World->(Nat->Prop)->Prop}(h:Wp P tgt g w)(k:To P tgt w Sh Ψ):To P g w Sh Ψ:=lz h λg'⟨_,_,e⟩=>e▸k
end
end Go.Mw
namespace Go.Bi
variable{a b:Addr}{o v x y:aX}{r:Nat}{α β:Type}{c:dU}{f h l m:Option Value}{k:IntKind}
section
variable{S:Sit}{P:Program}
structure POK(S:Sit)(P:Program):Prop where
 inj:∀a b,S.D a->S.D b->S.ren a=S.ren b->a=b
def pF(S:Sit)(P:Program)(t:bT):Prop:=∀i z,P.info? t=some i->i.zero=some z->VR S z z
def pm(h:S.D a.block):Im S P (VR S) (load a) (load (rA S a)):=⟨rfl,rfl,h,rfl,λ_ _ b=>b⟩
def c2Y(h:S.D a.block){v':aX}(b:VR S v v'):Im S P (λ_ _=>True) (store a v) (store (rA S a) v'):=⟨rfl,rfl,h,rfl,b,trivial⟩
def A2{o a:Obj}(h:zZ S o a):Im S P (λr c=>S.D r/\c=S.ren r) (newObj o) (newObj a):=⟨h,λ_ b=>⟨b,rfl⟩⟩
def Xf(h:S.D r):Im S P (λa b=>b=a) (shape r) (shape (S.ren r)):=.inr ⟨h,rfl,λ_=>rfl⟩
def A1(q:Question):Im S P (λa b=>b=a) (choose q) (choose q):=⟨rfl,λ_=>rfl⟩
def Ew:Im S P (λa b=>a=P/\b=P) program program:=⟨rfl,rfl⟩
def pi{m:Mark}(h:iG m):Im S P (λ_ _=>True) (mark m) (mark m):=⟨rfl,h,trivial⟩
def G6{R:α->β->Prop}(x:String)(s:Sem β):Im S P R (stuck x) s:=.halt _ _
def C9{R:α->β->Prop}(x:Unsupported)(s:Sem β):Im S P R (unsupported x) s:=.halt _ _
def b6E{R:α->β->Prop}(x:aX)(s:Sem β):Im S P R (goPanic x) s:=.halt _ _
theorem b6F(n:Nat):Im S P (λ_ _=>True) (askRoom n) (askRoom n):=by
 unfold askRoom;split
 exact pi trivial
 trivial
theorem G5(t:bT):Im S P (λa b=>b=a/\P.underlying t=some a) (underlying t) (underlying t):=by
 refine .bind Ew ?_;rintro _ _ ⟨rfl,rfl⟩;split
 rename_i h;exact .pure ⟨rfl,h⟩
 trivial
theorem Qz(t:bT):Im S P (λa b=>b=a/\P.info? t=some a) (typeInfo t) (typeInfo t):=by
 refine .bind Ew ?_;rintro _ _ ⟨rfl,rfl⟩;split
 rename_i h;exact .pure ⟨rfl,h⟩
 trivial
theorem U7(t:bT):Im S P (λa b=>b=a) (sizeOf t) (sizeOf t):=by refine .bind (Qz t) ?_;rintro a _ ⟨rfl,_⟩;rfl
theorem c2Z(t:bT):Im S P (λa b=>b=a) (isAgg t) (isAgg t):=by apply dG (G5 t);rintro a _ ⟨rfl,_⟩;split<;>exact .pure rfl
theorem b9M(t:bT):Im S P (λa b=>b=a) (elemOf t) (elemOf t):=by
 apply dG (G5 t);rintro a _ ⟨rfl,_⟩;split
 exact .pure rfl
 trivial
theorem XA(t:bT)(c:pF S P t):Im S P (VR S) (zeroValue t) (zeroValue t):=by
 apply dG (Qz t);rintro a _ ⟨rfl,b⟩;split
 rename_i h;exact .pure<|c _ _ b h
 trivial
theorem VR.cells{v':aX}(h:VR S v v'):AR S v.cells v'.cells:=by
 cases h with
 | agg c d b a=>exact⟨b,a⟩
 | _=>exact .one<|Vz
theorem a7J(h:S.D a.block)(n:Nat):∀(i:Nat)(c b:dU),AR S c b->Im S P (AR S) (loadCellsFrom a i n c) (loadCellsFrom (rA S a) i n b):=by
 induction n with
 | zero=>intro i c b d;trivial
 | succ n f=>intro i c b d;unfold loadCellsFrom;rw[<-Jh];apply dG (pm<|by rw[add_block];exact h);intro v g e;exact f _ _ _<|d.push e
def Ge(h:S.D a.block)(n:Nat):Im S P (AR S) (loadCells a n) (loadCells (rA S a) n):=a7J h n 0 _ _ .nil
theorem a5U(h:S.D a.block):∀(l l':jl)(i:Nat),LR (VR S) l l'->Im S P (λ_ _=>True) (storeCells a l i) (storeCells (rA S a) l' i):=by
 intro l l' i b
 induction b generalizing i with
 | nil=>trivial
 | cons c=>unfold storeCells;rw[<-Jh];refine .bind (c2Y (by rw[add_block];exact h) c) ?_;grind
theorem AR.list{d:dU}(h:AR S c d):LR (VR S) c.toList d.toList:=by
 let⟨l⟩:=c;let⟨a⟩:=d;obtain⟨b,e⟩:=h;simp at b;induction l generalizing a with
 | nil=>
  cases a with
  | nil=>exact .nil
  | cons=>trivial
 | cons x l k=>
  cases a with
  | nil=>trivial
  | cons y a=>refine .cons (e 0 aZ<|aZ) (k a (λi j g=>?_)<|fU);have:=e (i+1) fU fU;trivial
theorem M3(t:bT)(h:S.D a.block):Im S P (VR S) (loadVar t a) (loadVar t (rA S a)):=by
 apply dG (c2Z t);rintro b _ rfl;split
 apply dG (U7 t);rintro n _ rfl;apply dG (Ge h _);intro c e d;exact fA<|.agg' d
 exact pm h
theorem b4Z(t:bT)(h:S.D a.block){v':aX}(c:VR S v v'):Im S P (λ_ _=>True) (storeVar t a v) (storeVar t (rA S a) v'):=by
 apply dG (U7 t);rintro n _ rfl;have b:=c.cells;rw[b.size];split
 apply G6
 exact a5U h _ _ _ b.list
theorem AW(t:bT){b:dU}(h:AR S c b):Im S P (λa a'=>S.D a.block/\a'=rA S a) (newRow t c) (newRow t b):=by refine .bind (A2 (.cells _ _ _ _ _ h<|.refl _)) ?_;rintro r _ ⟨d,rfl⟩;trivial
def AM(t:bT){v':aX}(h:VR S v v'):Im S P (λa a'=>S.D a.block/\a'=rA S a) (newVar t v) (newVar t v'):=AW t h.cells
def bo:RuntimeError->Prop
 | .typeAssertion ..=>False
 | _=>True
theorem XD{R:α->β->Prop}(e:RuntimeError)(f:bo e):Im S P R (runtimePanic e) (runtimePanic e):=by
 apply dG Ew;rintro p g ⟨d,b⟩;subst b;subst d
 cases e with
 | panicNil=>
  apply dG (b9M _);rintro x _ rfl
  exact dG (AM _<|VR.agg' AR.nil) λ_ _ _=>b6E _ _
 | _=>trivial
theorem IN{R:α->β->Prop}(k:IntKind)(x y:Int)(c:BoundsCode):Im S P R (boundsPanic k x y c) (boundsPanic k x y c):=by
 unfold boundsPanic;split
 refine dG (R:=λa b=>b=a) (dG (A1 _) ?_) ?_
 rintro a _ rfl;exact .pure rfl
 rintro a _ rfl;trivial
 trivial
theorem BY{v':aX}(h:VR S v v'):Im S P (λa b=>b=a/\v=.int a.1 a.2) (asIntOf v) (asIntOf v'):=by cases h<;>trivial
theorem c22{v':aX}(h:VR S v v'):Im S P (λa b=>b=a) (asInt v) (asInt v'):=by refine .bind (BY h) ?_;rintro a _ ⟨rfl,_⟩;rfl
theorem b9N{v':aX}(h:VR S v v'):Im S P (λa b=>b=a) (asBool v) (asBool v'):=by cases h<;>trivial
theorem AD{v':aX}(h:VR S v v'):Im S P (λa a'=>S.D a.block/\a'=rA S a) (asAddr v) (asAddr v'):=by cases h<;>trivial
theorem XC{v':aX}(h:VR S v v'):Im S P (λa a'=>S.D a.block/\a'=rA S a) (Instr.sureAddr v) (Instr.sureAddr v'):=by cases h<;>trivial
def As(h:S.D r):Im S P (λo b=>∃a l,S.D a.block/\o=.number a l/\b=.number (rA S a) l) (getObj r) (getObj (S.ren r)):=⟨h,rfl,λa l c=>⟨a,l,c,rfl,rfl⟩⟩
theorem An(h:S.D r):Im S P (λa b=>b=a) (viewAt r) (viewAt (S.ren r)):=by
 apply dG (Xf h);rintro s _ rfl;split
 exact fA rfl
 refine .bind (As h) ?_;rintro _ _ ⟨a,l,c,rfl,rfl⟩;rfl
inductive NR(S:Sit):Option (Addr×Bool)->Option (Addr×Bool)->Prop
 | none:NR S none none
 | some (a:Addr) (l:Bool) (h:S.D a.block):NR S (some (a,l)) (some (rA S a,l))
theorem QQ(h:S.D r):Im S P (NR S) (numberAt r) (numberAt (S.ren r)):=by
 apply dG (Xf h);rintro s _ rfl;split
 exact fA .none
 refine .bind (As h) ?_;rintro _ _ ⟨a,l,b,rfl,rfl⟩;exact .pure<|.some a l b
theorem V8(h:S.D a.block):Im S P (λp p'=>S.D p.1.block/\p'=(rA S p.1,p.2)) (behindNumber a) (behindNumber (rA S a)):=by
 refine .bind (QQ h) ?_;intro o e c
 cases c<;>trivial
theorem b40(h:S.D a.block)(l:Bool):Im S P (VR S) (asNumber a l) (asNumber (rA S a) l):=by refine .bind (A2<|.number _ _ h) ?_;rintro r _ ⟨b,rfl⟩;exact .pure<|.ptr _ b
theorem b9O(h:S.D a.block):Im S P (λ_ _=>True) (noView a) (noView (rA S a)):=by
 refine .bind (An h) ?_;rintro s _ rfl;split
 apply C9
 trivial
end
section
variable{S:Sit}{P:Program}
theorem c26(t:bT)(c:pF S P t):Im S P (VR S) (Instr.alloc t true (.tuple #[])) (Instr.alloc t true (.tuple #[])):=by apply dG (XA t c);intro z e c;apply dG (AM t c);rintro a _ ⟨d,rfl⟩;exact .pure<|.ptr a d
structure PR(p p':Nat×Value):Prop where
 at_:p'.1=p.1
 val:VR S p.2 p'.2
theorem c27(a:Nat):∀(l l':List (Value×Nat))(c b:dU),LR (λp p'=>VR S p.1 p'.1/\p'.2=p.2) l l'->AR S c b->
 AR S (l.foldl (λcs(c,j)=>cs.setIfInBounds (a+j) c) c) (l'.foldl (λcs(c,j)=>cs.setIfInBounds (a+j) c) b):=by
 intro l l' c b k
 induction k generalizing c b with
 | nil=>intro h;exact h
 | @cons p p' l l' h _ f=>intro g;obtain⟨v,i⟩:=p;obtain⟨m,n⟩:=p';obtain⟨e,d⟩:=h;dsimp only at e d;subst d;rw[kW,kW];exact f _ _ (g.set _ e)
theorem c74{l l':jl}(h:LR (VR S) l l'):∀k,LR (λp p'=>VR S p.1 p'.1/\p'.2=p.2) (l.zipIdx k) (l'.zipIdx k):=by
 induction h with
 | nil=>intro k;exact .nil
 | cons h _ a=>intro k;exact .cons ⟨h,rfl⟩<|a _
theorem xr(a:Nat->Option (Nat×Nat)):∀(l l':List (Nat×Value))(c e:dU),LR (PR (S:=S)) l l'->AR S c e->
 (Instr.fill a c l=none)\/∃x k,Instr.fill a c l=some x/\Instr.fill a e l'=some k/\AR S x k:=by
 intro l l' c e w
 induction w generalizing c e with
 | nil=>intro h;exact .inr ⟨c,e,rfl,rfl,h⟩
 | @cons p f l l' h _ s=>
  intro m;let⟨i,v⟩:=p;let⟨r,q⟩:=f;obtain⟨rfl,t⟩:=h;have d:=t.cells;unfold Instr.fill;dsimp
  cases a r with
  | none=>simp
  | some u=>
   let⟨g,j⟩:=u;dsimp at d⊢;rw[<-d.size,<-m.size];split
   exact .inl rfl
   apply s;have o:LR (λp f=>VR S p.1 f.1/\f.2=p.2) v.cells.zipIdx.toList q.cells.zipIdx.toList:=by rw[uT,uT];exact c74 d.list 0
   have:=c27 g _ _ c e o m;rw[<-oM,<-oM];trivial
theorem b3O(f:α->Sem β)(h:∀x,Im S P (λa b=>b=a) (f x) (f x))(l:List α):Im S P (λa b=>b=a) (l.mapM f) (l.mapM f):=by
 induction l with
 | nil=>rfl
 | cons x l c=>rw[oJ];refine .bind (h x) ?_;rintro _ a rfl;refine .bind c ?_;rintro _ b rfl;rfl
theorem b1B(f:α->Sem β)(h:∀x,Im S P (λa b=>b=a) (f x) (f x))(l:Array α):Im S P (λa b=>b=a) (l.mapM f) (l.mapM f):=by rw[jm];refine .bind (b3O f h _) ?_;rintro _ a rfl;rfl
theorem c3a(t:bT)(j:pF S P t){b a:Array (Nat×Value)}(h:LR (PR (S:=S)) b.toList a.toList):Im S P (VR S) (Instr.build t b) (Instr.build t a):=by
 unfold Instr.build;apply dG (XA t j);intro z o j;dsimp;apply dG (G5 t);rintro d _ ⟨rfl,_⟩;split
 refine dG (b1B _ (λf=>?_) _) ?_
 apply dG (U7 _);rintro _ n rfl;exact fA rfl
 rintro _ g rfl;obtain e|⟨x,m,e,k,l⟩:=xr _ _ _ _ _ h j.cells
 rw[e];apply G6
 rw[e,k];exact fA<|VR.agg' l
 apply dG (U7 _);rintro _ n rfl;obtain e|⟨x,m,e,k,l⟩:=xr _ _ _ _ _ h j.cells
 rw[e];apply G6
 rw[e,k];exact fA<|VR.agg' l
 trivial
theorem b3P{a:dU}(h:AR S c a)(g:∀n,n≠0->True)(n:Nat)(d:0<c.size\/n=0):AR S ((Array.range n).map (c[· % c.size]!)) ((Array.range n).map (a[· % a.size]!)):=by
 refine⟨aZ,λi j k=>?_⟩;simp[Array.getElem_map,Array.getElem_range];simp[Array.size_map,Array.size_range] at j;obtain d|d:=d
 have b:i%c.size<c.size:=MZ _ d;rw[getElem!_pos c _ b,getElem!_pos a _ _];have:=h.at_ _ b (by rw[<-h.size];exact b);simpa only[h.size] using this
 omega
def b6G:VR S (default:aX) default:=.bool _
theorem Z3{a:dU}(h:AR S c a)(n:Nat):AR S ((Array.range n).map (c[· % c.size]!)) ((Array.range n).map (a[· % a.size]!)):=by
 by_cases b:0<c.size
 exact b3P h (λ_ _=>trivial) n<|.inl b
 refine⟨aZ,λi f g=>?_⟩;simp;have e:a.size=0:=by rw[<-h.size];omega
 rw[getElem!_neg c _ aj,getElem!_neg a _<|aj];exact b6G
theorem b1C(t:bT)(m:∀e,P.underlying t=some (.slice e)->pF S P e)(c:Nat){j g:Array (Nat×Value)}(h:LR (PR (S:=S)) j.toList g.toList):Im S P (VR S) (Instr.buildSlice t c j) (Instr.buildSlice t c g):=by
 unfold Instr.buildSlice;refine dG (G5 t) ?_;rintro d _ ⟨rfl,r⟩;split
 ·rename_i l;refine dG (U7 _) ?_;rintro _ b rfl;dsimp only;split
  ·exact C9 _ _
  ·have o:∀z n,AR S z n->Im S P (VR S)
    (do
      let some k:=Instr.fill (λi=>some (i*b,b)) ((Array.range (c*b)).map (z[· % z.size]!)) j.toList|stuck "buildSlice: a part of the wrong size"
      pure (.slice (some (<-newRow l k)) c c))
    (do
      let some k:=Instr.fill (λi=>some (i*b,b)) ((Array.range (c*b)).map (n[· % n.size]!)) g.toList|stuck "buildSlice: a part of the wrong size"
      pure (.slice (some (<-newRow l k)) c c)):=by
    intro z n m;rcases xr (λi=>some (i*b,b)) _ _ _ _ h (Z3 m (c*b)) with e|⟨x,u,e,q,s⟩
    ·rw[e];exact G6 _ _
    ·rw[e,q];refine dG (AW _ s) ?_;rintro a _ ⟨p,rfl⟩;exact fA (.slice a c c p)
   split
   ·exact dG (R:=AR S) (fA AR.nil) o
   ·exact dG (XA _ (m _ r)) λz n m=>dG (R:=AR S) (fA m.cells) o
 ·exact G6 _ _
theorem b9P(t:bT){a a':aX}(h:VR S a a'):Im S P (VR S) (Instr.loadAt t a) (Instr.loadAt t a'):=by apply dG (XC h);rintro a _ ⟨c,rfl⟩;exact M3 t c
theorem b6H(t:bT){a a' v':aX}(h:VR S a a')(d:VR S v v'):Im S P (λ_ _=>True) (Instr.storeAt t a v) (Instr.storeAt t a' v'):=by apply dG (XC h);rintro a _ ⟨c,rfl⟩;exact b4Z t c d
theorem b1D(h:S.D a.block)(f:Field)(c:∀i,P.info? f.type=some i->i.size≠0):Im S P (λa a'=>S.D a.block/\a'=rA S a) (fieldPlace a f) (fieldPlace (rA S a) f):=by unfold fieldPlace;unfold sizeOf;simp[bind_assoc,pure_bind];apply dG (Qz _);rintro _ i ⟨rfl,b⟩;rw[if_neg (c _ b),if_neg<|c _ b,<-Jh];exact .pure ⟨by rw[add_block];exact h,rfl⟩
theorem b6I(s:bT)(f:Nat)(j:∀e g i,P.underlying s=some (.struct e)->e[f]?=some g->P.info? g.type=some i->i.size≠0){a a':aX}(h:VR S a a'):Im S P (VR S) (Instr.fieldAt s a f) (Instr.fieldAt s a' f):=by
 apply dG (G5 s);rintro _ d ⟨rfl,l⟩;split
 rename_i e;split
 rename_i g m;apply dG (XC h);rintro a _ ⟨n,rfl⟩;apply dG (b1D n g λi k=>j e g i l m k);rintro b _ ⟨o,rfl⟩;exact fA (.ptr b o)
 trivial
 trivial
def AT(t:bT)(k:IntKind)(n:Int)(p:Option Addr×Nat×TypeId):Sem Value:=do
 let b:=p.2.1<=1&&(match <-underlying t with|.array ..=>true|_=>false)
 match p.1 with
 | some a=>
  if 0<=n/\n<p.2.1 then pure (.pointer (some (a.add (n.toNat*(<-sizeOf p.2.2)))))
  else if b then unsupported (.noEntry "op/indexAddr.an index out of range at an array of length 0 or 1 (ledger 616)")
  else boundsPanic k n p.2.1 .index
 | none=>boundsPanic k n 0 .index
theorem FR(g:POK S P)(t:bT)(k:IntKind)(n:Int){p p':Option Addr×Nat×TypeId}(c:p'.2=p.2)(e:(p.1=none/\p'.1=none)\/∃x,p.1=some x/\p'.1=some (rA S x)/\S.D x.block):
 Im S P (VR S) (AT t k n p) (AT t k n p'):=by
 let⟨b,l⟩:=p;let⟨h,i⟩:=p';dsimp at e c;subst c;unfold AT;apply dG (G5 t);rintro _ d ⟨rfl,_⟩;dsimp;obtain⟨rfl,rfl⟩|⟨a,rfl,rfl,f⟩:=e
 apply IN
 dsimp;split
 apply dG (U7 _);rintro _ s rfl;rw[<-Jh];exact fA (.ptr _ (by rw[add_block];exact f))
 split<;>split<;>first|apply C9|apply IN
theorem b6J(g:POK S P)(t:bT){i m:aX}(h:VR S x o)(p:VR S i m):Im S P (VR S) (Instr.indexAt t x i) (Instr.indexAt t o m):=by
 unfold Instr.indexAt;apply dG (BY p);rintro _ ⟨k,n⟩ ⟨rfl,_⟩;dsimp;apply dG (G5 t);rintro _ d ⟨rfl,_⟩
 cases d with
 | array f b=>
  apply dG (XC h);rintro a _ ⟨j,rfl⟩
  exact FR g t k n (p:=(some a,f,b)) (p':=(some<|rA S a,f,b)) rfl<|.inr ⟨a,rfl,rfl,j⟩
 | slice b=>
  cases h with
  | jv l=>exact FR g t k n (p:=(none,l,b)) rfl<|.inl ⟨rfl,rfl⟩
  | slice a l c j=>exact FR g t k n (p:=(some a,l,b)) (p':=(some<|rA S a,l,b)) rfl<|.inr ⟨a,rfl,rfl,j⟩
  | _=>trivial
 | _=>trivial
theorem b1E(f:POK S P){e:aX}(h:VR S x e)(y:Nat)(c:BoundsCode):Im S P (λa b=>b=a) (Instr.sliceBound x y c) (Instr.sliceBound e y c):=by
 apply dG (BY h);rintro _ ⟨k,n⟩ ⟨rfl,_⟩;simp;split
 exact .pure rfl
 apply IN
inductive OR(S:Sit):Option Value->Option Value->Prop
 | none:OR S none none
 | some {v v':Value} (h:VR S v v'):OR S (some v) (some v')
theorem XG(j:POK S P)(b:Bool)(n c:Nat){l' e:Option Value}(i:OR S l l')(g:OR S h e)(k:OR S m f):Im S P (λa b=>b=a) (Instr.sliceBounds b n c l h m) (Instr.sliceBounds b n c l' e f):=by
 unfold Instr.sliceBounds;cases k<;>cases g<;>cases i<;>dsimp <;>
  repeat (first|apply G6|rfl|(apply dG (by first|exact fA rfl|apply G6|apply b1E j (kT));rintro _ _ rfl))
theorem c3b(r:POK S P)(t:bT){A:aX}(v:VR S x A){l' y w:Option Value}(q:OR S l l')(p:OR S h y)(u:OR S m w):Im S P (VR S) (Instr.slice t x l h m) (Instr.slice t A l' y w):=by
 unfold Instr.slice;refine dG (G5 t) ?_;rintro _ d ⟨rfl,_⟩;have z:∀(a:Addr)(o:S.D a.block)(f:bT)(b:Bool)(n c:Nat),Im S P (VR S)
  (do let (l,h,m) <-Instr.sliceBounds b n c l h m;let g <-sizeOf f;pure (.slice (some (if m=l then a else a.add (l*g))) (h - l) (m - l)):Sem Value)
  (do let (l,h,m) <-Instr.sliceBounds b n c l' y w;let g <-sizeOf f;pure (.slice (some (if m=l then rA S a else(rA S a).add (l*g))) (h - l) (m - l)):Sem Value):=by
  intro a o f b n c;refine dG (XG r _ _ _ q p u) ?_;rintro _ ⟨i,j,k⟩ rfl;refine dG (U7 _) ?_;rintro _ s rfl;split
  ·exact fA (.slice a _ _ o)
  ·rw[<-Jh];exact fA (.slice _ _ _ (by rw[add_block];exact o))
 cases d with
 | string=>
  cases v with
  | string s=>
   dsimp only
   cases u with
   | some _=>exact G6 _ _
   | none=>
    refine dG (XG r _ _ _ q p .none) ?_;rintro _ ⟨i,j,k⟩ rfl
    exact fA (.string _)
  | _=>exact G6 _ _
 | slice f=>
  cases v with
  | jv n c=>
   dsimp only;refine dG (XG r _ _ _ q p u) ?_;rintro _ ⟨i,j,k⟩ rfl;refine dG (U7 _) ?_;rintro _ s rfl;dsimp only
   split<;>exact fA (.jv _ _)
  | slice a n c o=>
   dsimp only;refine dG (XG r _ _ _ q p u) ?_;rintro _ ⟨i,j,k⟩ rfl;refine dG (U7 _) ?_;rintro _ s rfl;dsimp only;split
   ·exact fA (.slice a _ _ o)
   ·rw[eP,eP,<-Jh];exact fA (.slice _ _ _ (by rw[add_block];exact o))
  | _=>exact G6 _ _
 | pointer B=>
  refine dG (AD v) ?_;rintro a _ ⟨o,rfl⟩;refine dG (G5 _) ?_;rintro _ d ⟨rfl,_⟩;split
  ·exact z a o _ _ _ _
  ·exact G6 _ _
 | _=>exact G6 _ _
theorem b6K(e:POK S P)(t:bT)(n:VR S x o){l' q:Option Value}(g:OR S l l')(c:OR S h f)(r:OR S m q):Im S P (VR S) (Instr.sliceAt t x l h m) (Instr.sliceAt t o l' f q):=by
 apply dG (G5 t);rintro _ d ⟨rfl,_⟩;split
 apply dG (XC n);rintro a _ ⟨p,rfl⟩;apply dG (XG e _ _ _ g c r);rintro _ ⟨i,j,k⟩ rfl;apply dG (U7 _);rintro _ s rfl;split
 exact fA<|.slice a _ _ p
 rw[<-Jh];exact fA (.slice _ _ _<|by rw[add_block];exact p)
 exact c3b e t n g c r
theorem a7M(t:bT)(e:S.T t){b:aX}(c:VR S x b):Im S P (VR S) (Instr.makeInterface t x) (Instr.makeInterface t b):=by
 apply dG (G5 t);rintro _ d ⟨rfl,_⟩;split
 apply G6
 exact .pure<|.iface t _ _ e c
theorem b6L(i:Nat){d:aX}(h:VR S x d):Im S P (VR S) (Instr.extract x i) (Instr.extract d i):=by
 unfold Instr.extract
 cases h with
 | tuple c k f b=>
  obtain⟨e,_⟩|⟨v,l,e,j,g⟩:=AR.get? ⟨f,b⟩ i
  dsimp;rw[e];apply G6
  dsimp;rw[e,j];trivial
 | _=>trivial
end
section
variable{S:Sit}{P:Program}
theorem wY{R:α->β->Prop}(c:Prop)[Decidable c]{s t:Sem α}{s' t':Sem β}(h:c->Im S P R s s')(k:¬c->Im S P R t t'):Im S P R (if c then s else t) (if c then s' else t'):=by
 split
 ·exact h kT
 ·exact k kT
def X5{β':Type}{R:β->β'->Prop}(x:Unsupported)(f:α->Sem β)(s':Sem β'):Im S P R (unsupported x >>= f) s':=Im.halt _ _
theorem QP(op:BinOp)(k:IntKind)(x y:Int):Im S P (VR S) (Op.intArith op k x y) (Op.intArith op k x y):=by unfold Op.intArith;split<;>first|exact fA (.int _ _)|exact G6 _ _
theorem MM(op:BinOp)(k:IntKind)(x y:Int):Im S P (VR S) (Op.intBits op k x y) (Op.intBits op k x y):=by unfold Op.intBits;dsimp only;split<;>first|exact fA (.int _ _)|exact G6 _ _
theorem b9Q(op:BinOp)(x y:Int):Im S P (VR S) (Op.intCmp op x y) (Op.intCmp op x y):=by unfold Op.intCmp;split<;>first|exact fA (.bool _)|exact G6 _ _
theorem b9R(op:BinOp)(k:IntKind)(x y:Int):Im S P (VR S) (Op.intDiv op k x y) (Op.intDiv op k x y):=by
 unfold Op.intDiv;split
 ·exact XD _ trivial
 ·split<;>first|exact fA (.int _ _)|exact G6 _ _
theorem c3c(op:BinOp)(k:IntKind)(x:Int)(j:IntKind)(y:Int):Im S P (VR S) (Op.shift op k x j y) (Op.shift op k x j y):=by
 unfold Op.shift;split
 ·exact XD _ trivial
 ·dsimp only;split<;>first|exact fA (.int _ _)|exact G6 _ _
theorem GA(op:BinOp)(x y:ByteArray):Im S P (VR S) (Op.stringOp op x y) (Op.stringOp op x y):=by
 unfold Op.stringOp;dsimp only;split
 ·split
  ·exact C9 _ _
  ·exact fA (.string _)
 all_goals first|exact fA (.bool _)|exact G6 _ _
theorem c3d(op:UnOp){x':aX}(h:VR S x x'):Im S P (VR S) (Op.unary op x) (Op.unary op x'):=by cases h<;>cases op<;>first|exact QP .sub _ 0 _|exact MM .xor _ _ _|exact fA (.float _ _)|exact fA (.complex _ _ _)|exact fA (.bool _)|exact C9 _ _|exact G6 _ _
theorem AS(op:BinOp)(t:bT)(k:IntKind)(a:Int)(k':IntKind)(b:Int):Im S P (VR S) (binOp op t (.int k a) (.int k' b)) (binOp op t (.int k a) (.int k' b)):=by
 have key:∀{s s':Sem Value},Im S P (VR S) s s'->Im S P (VR S) (if k≠k' then stuck "BinOp: operands of different kinds" else s) (if k≠k' then stuck "BinOp: operands of different kinds" else s'):=λh=>wY _ (λ_=>G6 _ _) λ_=>h
 cases op<;>first
  | exact key (QP _ _ _ _)
  | exact key (b9R _ _ _ _)
  | exact key (MM _ _ _ _)
  | exact key (b9Q _ _ _)
  | (unfold binOp;exact c3c _ _ _ _ _)
theorem cR(t:bT){p p':Option Addr}(hp:VR S (.pointer p) (.pointer p')){y':aX}(hy:VR S y y'):Im S P (VR S) (Builtin.unsafeAdd_ #[] t #[.pointer p,y]) (Builtin.unsafeAdd_ #[] t #[.pointer p',y']):=by
 unfold Builtin.unsafeAdd_;dsimp only;refine dG (c22 hy) ?_;rintro n _ rfl
 cases hp with
 | kK=>
  dsimp only;split
  ·exact C9 _ _
  ·split
   ·exact X5 _ _ _
   ·exact C9 _ _
 | ptr a ha=>
  dsimp only;split
  ·refine dG (An ha) ?_;rintro o _ rfl;split
   ·exact X5 _ _ _
   ·exact fA (.ptr a ha)
  ·split
   ·exact X5 _ _ _
   ·refine dG (Xf ha) ?_;rintro s _ rfl;split
    ·refine dG Ew ?_;rintro p p' ⟨hp,hp'⟩;subst hp';subst hp;rw[sX];split
     ·rename_i off _;exact fA (.ptr {a with off:=off} ha)
     ·exact C9 _ _
    ·exact C9 _ _
theorem cU(t:bT){x' y':aX}(hx:VR S x x')(hy:VR S y y'):Im S P (VR S) (movedNumber t x y) (movedNumber t x' y'):=by
 unfold movedNumber;refine dG (G5 t) ?_;rintro d _ ⟨rfl,_⟩
 cases hx with
 | ptr a ha=>
  dsimp only;refine wY _ (λ_=>X5 _ _ _) λ_=>?_;refine dG (V8 ha) ?_;rintro⟨b,l⟩ _ ⟨hb,rfl⟩;refine dG (cR t (.ptr b hb) hy) ?_;intro v v' hv
  cases hv with
  | ptr c hc=>exact b40 hc _
  | _=>exact fA Vz
 | kK=>
  dsimp only
  exact wY _ (λ_=>X5 _ _ _) λ_=>cR t .kK hy
 | _=>dsimp only;exact wY _ (λ_=>X5 _ _ _) λ_=>Im.halt _ _
theorem a4H(t:bT){p p':Option Addr}(hp:VR S (.pointer p) (.pointer p')){y':aX}(hy:VR S y y'):Im S P (VR S) (movedPointer t (.pointer p) y) (movedPointer t (.pointer p') y'):=by
 unfold movedPointer
 cases hp with
 | kK=>exact cR t .kK hy
 | ptr a ha=>
  refine dG (QQ ha) ?_;intro o o' ho
  cases ho with
  | none=>exact cR t (.ptr a ha) hy
  | some b l hb=>exact X5 _ _ _
theorem b9S(ha:S.D a.block):Im S P (λa b=>b=a) (byteOf a) (byteOf (rA S a)):=by
 unfold byteOf;rw[c6j];split
 ·exact fA rfl
 ·refine dG Ew ?_;rintro p p' ⟨hp,hp'⟩;subst hp';subst hp;refine dG (b9O ha) ?_;intro _ _ _;refine dG (Xf ha) ?_;rintro _ s rfl;rw[sX];split
  ·dsimp only;split
   ·exact fA rfl
   ·split
    ·exact fA rfl
    ·exact G6 _ _
  ·exact G6 _ _
structure PGK(S:Sit)(P:Program):Prop where
 high:∀b,S.D b->P.globals.size<=b
 inj:∀a b,S.D a->S.D b->S.ren a=S.ren b->a=b
theorem b6M(hP:PGK S P)(op:BinOp){a' b':Addr}(ha:S.D a.block):Im S P (VR S) (Op.addrCmp op a b) (Op.addrCmp op a' b'):=by
 unfold Op.addrCmp Op.twoPlaces;have e:(a.block != b.block||decide (a.block ≥ P.globals.size))=true:=by simp[hP.high _ ha]
 refine dG (R:=λ_ _=>False) (dG Ew ?_) λ_ _ h=>h.elim;rintro p p' ⟨hp,hp'⟩;subst hp';subst hp;rw[if_pos e];exact X5 _ _ _
theorem LF(k:IntKind)(ha:S.D a.block)(n:Int):Im S P (VR S) (Op.addrMod k a n) (Op.addrMod k (rA S a) n):=by
 unfold Op.addrMod;refine dG (Xf ha) ?_;rintro s _ rfl;split
 ·refine dG (Qz _) ?_;rintro i _ ⟨rfl,_⟩;dsimp only;refine wY _ (λ_=>X5 _ _ _) λ_=>?_;refine dG (b9S ha) ?_;rintro n _ rfl;exact fA (.int _ _)
 ·exact C9 _ _
def Y_:BinOp->Bool
 | .add|.lss|.gtr|.and|.or|.xor|.mul|.shl|.shr=>true
 | _=>false
theorem c3e(hP:PGK S P)(op:BinOp)(ho:Y_ op=true)(t:bT){x' y':aX}(hx:VR S x x')(hy:VR S y y'):Im S P (VR S) (binOp op t x y) (binOp op t x' y'):=by
 have hx0:=hx;have hy0:=hy;have hadd:∀{a b u u':aX}{c:Prop}[Decidable c]{r r':Sem Value},Im S P (VR S) r r'->(Im S P (VR S) (movedNumber t a u) (movedNumber t b u'))->Im S P (VR S) (if c then r else movedNumber t a u) (if c then r' else movedNumber t b u'):=λh k=>wY _ (λ_=>h) λ_=>k
 cases hx with
 | int k a=>
  cases hy with
  | int k' b=>exact AS _ _ _ _ _ _
  | ptr b hb=>
   cases op<;>first
    | exact absurd ho dA
    | (unfold binOp;dsimp only;first
        | exact cU t hy0 hx0
        | exact C9 _ _
        | (refine dG (V8 hb) ?_;rintro p _ ⟨h1,rfl⟩;exact LF _ h1 _))
  | _=>cases op<;>first
   | exact absurd ho dA
   | (unfold binOp;dsimp only;first
       | exact cU t hy0 hx0
       | exact C9 _ _
       | exact G6 _ _)
 | string s=>
  cases hy with
  | string u=>cases op<;>first|exact absurd ho dA|(unfold binOp;dsimp only;exact GA _ _ _)
  | _=>cases op<;>first
   | exact absurd ho dA
   | (unfold binOp;dsimp only;first|exact C9 _ _|exact G6 _ _)
 | ptr a ha=>
  cases hy with
  | int k' b=>
   cases op<;>first
    | exact absurd ho dA
    | (unfold binOp;dsimp only;first
        | exact C9 _ _
        | (refine dG (V8 ha) ?_;rintro p _ ⟨h1,rfl⟩;exact LF _ h1 _)
        | (refine dG (G5 t) ?_
           rintro d _ ⟨rfl,_⟩
           exact hadd (a4H t hx0 hy0) (cU t hx0 hy0)))
  | ptr b hb=>
   cases op<;>first
    | exact absurd ho dA
    | (unfold binOp;dsimp only;first
        | exact C9 _ _
        | (refine dG (V8 ha) ?_;rintro p _ ⟨h1,rfl⟩
           refine dG (V8 hb) ?_;rintro q _ ⟨h2,rfl⟩
           exact b6M hP _ h1))
  | _=>cases op<;>first
   | exact absurd ho dA
   | (unfold binOp;dsimp only;first|exact C9 _ _|exact G6 _ _)
 | kK=>
  cases hy with
  | int k' b=>
   cases op<;>first
    | exact absurd ho dA
    | (unfold binOp;dsimp only;first
        | exact C9 _ _
        | (refine dG (G5 t) ?_
           rintro d _ ⟨rfl,_⟩
           exact hadd (a4H t hx0 hy0) (cU t hx0 hy0)))
  | _=>cases op<;>first
   | exact absurd ho dA
   | (unfold binOp;dsimp only;first|exact C9 _ _|exact G6 _ _)
 | _=>
  cases hy<;>cases op<;>first
   | exact absurd ho dA
   | (unfold binOp;dsimp only;first|exact C9 _ _|exact G6 _ _)
end
section
variable{S:Sit}{P:Program}
structure PQG(S:Sit)(P:Program):Prop extends PGK S P where
 high':∀b,S.D b->P.globals.size<=S.ren b
theorem c77(hP:PGK S P)(ha:S.D a.block)(hb:S.D b.block):(rA S a==rA S b)=(a==b):=by rw[rE,fO,fO];refine⟨λh=>?_,λh=>by rw[h]⟩;obtain⟨x,i,s⟩:=a;obtain⟨y,j,u⟩:=b;unfold rA at h;injection h with h1 h2 h3;have:=hP.inj _ _ ha hb h1;dsimp only at this h2 h3;subst this;subst h2;subst h3;rfl
theorem c6l(hP:PQG S P)(d:Nat)(t:bT)(ht:P.underlying t=some (.int k)){x' y':aX}(hx:VR S x x')(hy:VR S y y'):Im S P (λa b=>b=a) (Op.equalIn (d+1) t x y) (Op.equalIn (d+1) t x' y'):=by
 rw[Op.equalIn,Op.equalIn];refine dG (G5 t) ?_;rintro _ td ⟨rfl,h⟩;rw[ht] at h;injection h with h;subst h
 cases hx with
 | int k1 a=>
  cases hy with
  | int k2 b=>exact wY _ (λ_=>fA rfl) λ_=>G6 _ _
  | ptr b hb=>
   by_cases e:a=0
   ·subst e;exact fA rfl
   ·dsimp only;split<;>first|exact fA rfl|(rename_i h _;cases h)|skip
    all_goals first|exact C9 _ _|exact absurd iL e|skip
    all_goals simp_all
  | _=>first|exact C9 _ _|exact G6 _ _
 | ptr a ha=>
  cases hy with
  | int k2 b=>
   by_cases e:b=0
   ·subst e;exact fA rfl
   ·dsimp only;split<;>first|exact fA rfl|skip
    all_goals first|exact C9 _ _|exact absurd iL e|skip
    all_goals simp_all
  | ptr b hb=>
   dsimp only;refine dG (V8 ha) ?_;rintro⟨p,l⟩ _ ⟨hp,rfl⟩;refine dG (V8 hb) ?_;rintro⟨q,l'⟩ _ ⟨hq,rfl⟩;refine dG Ew ?_;rintro p0 p0' ⟨h0,h0'⟩;rw[h0,h0'];have e1:¬(p.block==q.block&&decide (p.block<P.globals.size))=true:=by simp;intro _;exact hP.high _ hp
   have e2:¬((rA S p).block==(rA S q).block&&decide ((rA S p).block<P.globals.size))=true:=by have h3:decide ((rA S p).block<P.globals.size)=false:=aK (by have h4:P.globals.size<=S.ren p.block:=hP.high' _ hp;simp only[uA];omega);rw[h3];simp
   dsimp only;rw[if_neg e1,if_neg e2];refine dG (Qz t) ?_;rintro _ i ⟨rfl,_⟩;rw[c77 hP.toPGK hp hq];split
   ·exact wY _ (λ_=>fA rfl) λ_=>C9 _ _
   ·exact C9 _ _
  | _=>first|exact C9 _ _|exact G6 _ _
 | kK=>cases hy<;>first|exact C9 _ _|exact G6 _ _
 | _=>cases hy<;>first|exact C9 _ _|exact G6 _ _
def c9j(hP:PQG S P)(t:bT)(ht:P.underlying t=some (.int k)){x' y':aX}(hx:VR S x x')(hy:VR S y y'):Im S P (λa b=>b=a) (Op.equal t x y) (Op.equal t x' y'):=c6l hP 9999 t ht hx hy
theorem b41(op:BinOp)(t:bT)(ht:P.underlying t=some (.int k))(x y:Operand){a a' b b':aX}(ha:VR S a a')(hb:VR S b b'):Im S P (λ_ _=>True) (eqGuard op t x y a b) (eqGuard op t x y a' b'):=by
 have key:∀(u:Unsupported){a a' b b':aX},Im S P (λ_ _=>True) (do if <-Op.eqGuardIn Op.maxDepth t a b then unsupported u:Sem Unit) (do if <-Op.eqGuardIn Op.maxDepth t a' b' then unsupported u:Sem Unit):=by
  intro u a a' b b';refine dG (R:=λa b=>a=false/\b=false) ?_ ?_
  ·show Im S P _ (Op.eqGuardIn (9999+1) t a b) (Op.eqGuardIn (9999+1) t a' b');rw[Op.eqGuardIn,Op.eqGuardIn];refine dG (G5 t) ?_;rintro _ td ⟨rfl,h⟩;rw[ht] at h;injection h with h;subst h;exact fA ⟨rfl,rfl⟩
  ·rintro _ _ ⟨rfl,rfl⟩;exact fA trivial
 unfold eqGuard;refine wY _ (λ_=>fA trivial) λ_=>?_
 cases ha with
 | nilIface=>
  cases hb with
  | nilIface=>exact wY _ (λ_=>fA trivial) λ_=>key _
  | _=>exact fA trivial
 | agg c c' hc hc'=>
  cases hb with
  | agg e e' he he'=>
   dsimp only;refine dG Ew ?_;rintro p0 p0' ⟨h0,h0'⟩;rw[h0,h0'];refine dG Ew ?_;rintro p1 p1' ⟨h1,h1'⟩;rw[h1,h1']
   exact wY _ (λ_=>fA trivial) λ_=>key _
  | _=>exact fA trivial
 | _=>cases hb<;>exact fA trivial
theorem b42(op:BinOp)(t:bT)(x:Operand){a a':aX}(ha:VR S a a'):Im S P (λ_ _=>True) (eqGuard op t x (.const .nilIface) a .nilIface) (eqGuard op t x (.const .nilIface) a' .nilIface):=by
 unfold eqGuard;refine wY _ (λ_=>fA trivial) λ_=>?_
 cases ha with
 | nilIface=>exact wY _ (λ_=>fA trivial) λh=>absurd aZ h
 | _=>exact fA trivial
theorem c3f(t:bT){ms:Array (String×TypeId)}(ht:P.underlying t=some (.interface ms)){x':aX}(hx:VR S x x'):Im S P (λa b=>b=a) (Op.equal t x .nilIface) (Op.equal t x' .nilIface):=by show Im S P _ (Op.equalIn (9999+1) t x _) (Op.equalIn (9999+1) t x' _);rw[Op.equalIn,Op.equalIn];refine dG (G5 t) ?_;rintro _ td ⟨rfl,h⟩;rw[ht] at h;injection h with h;subst h;cases hx<;>first|exact fA rfl|exact G6 _ _
inductive Zj(P:Program)(t:TypeId):Operand->Prop
 | int (k:IntKind) (ht:P.underlying t=some (.int k)) (y:Operand):Zj P t y
 | nil (ms:Array (String×TypeId)) (ht:P.underlying t=some (.interface ms)):Zj P t (.const .nilIface)
theorem vt(op:BinOp)(ho:op=.eql\/op=.neq)(t:bT){x' y':aX}(hx:VR S x x')(hy:VR S y y')(h:Im S P (λa b=>b=a) (Op.equal t x y) (Op.equal t x' y')):Im S P (VR S) (binOp op t x y) (binOp op t x' y'):=by
 have k1:Im S P (VR S) (do pure (.bool (<-Op.equal t x y)):Sem Value) (do pure (.bool (<-Op.equal t x' y')):Sem Value):=dG h λa b e=>by subst e;exact fA (.bool _)
 have k2:Im S P (VR S) (do pure (.bool (!(<-Op.equal t x y))):Sem Value) (do pure (.bool (!(<-Op.equal t x' y'))):Sem Value):=dG h λa b e=>by subst e;exact fA (.bool _)
 rcases ho with rfl|rfl
 ·cases hx<;>cases hy<;>first|exact AS _ _ _ _ _ _|exact k1|exact GA .eql _ _
 ·cases hx<;>cases hy<;>first|exact AS _ _ _ _ _ _|exact k2|exact GA .neq _ _
theorem c3g{β':Type}{Q:β->β'->Prop}{l l':jl}(hl:LR (VR S) l l'){b:β}{b':β'}(hb:Q b b'){f:Value->β->Sem (ForInStep β)}{f':Value->β'->Sem (ForInStep β')}
 (hf:∀x x' b b',VR S x x'->Q b b'->Im S P (λr r'=>(∃c c',r=.yield c/\r'=.yield c'/\Q c c')\/∃c c',r=.done c/\r'=.done c'/\Q c c') (f x b) (f' x' b')):
 Im S P Q (forIn l b f) (forIn l' b' f'):=by
 induction hl generalizing b b' with
 | nil=>simp only[List.forIn_nil];exact fA hb
 | cons hx _ ih=>
  simp only[ru];refine dG (hf _ _ _ _ hx hb) ?_;rintro r r' (⟨c,c',rfl,rfl,h⟩|⟨c,c',rfl,rfl,h⟩)
  ·exact ih h
  ·exact fA h
theorem a7O{x':aX}(hx:VR S x x'):Im S P (VR S) (Conv.bytesToString x) (Conv.bytesToString x'):=by
 unfold Conv.bytesToString
 cases hx with
 | jv=>exact fA (.string _)
 | slice a n c ha=>
  dsimp only;refine dG (Ge ha _) ?_;intro cs cs' hc;refine dG (R:=λa b=>b=a) ?_ ?_
  ·rw[<-lq,<-lq];refine c3g (Q:=λa b=>b=a) hc.list rfl ?_;rintro y y' s _ hy rfl
   cases hy with
   | int k m=>cases k<;>first|exact fA (.inl ⟨_,_,rfl,rfl,rfl⟩)|exact G6 _ _
   | _=>exact G6 _ _
  ·rintro s _ rfl;exact fA (.string _)
 | _=>exact G6 _ _
inductive qq(P:Program)(s d:TypeId):Prop
 | int (k k':IntKind) (hs:P.underlying s=some (.int k)) (hd:P.underlying d=some (.int k'))
 | bytes (e:TypeId) (hs:P.underlying s=some (.slice e)) (he:P.underlying e=some (.int .u8)) (hd:P.underlying d=some .string)
theorem b6N{s d:bT}(h:qq P s d){x':aX}(hx:VR S x x'):Im S P (VR S) (convert s d x) (convert s d x'):=by
 unfold convert;refine dG (G5 s) ?_;rintro _ ts ⟨rfl,h1⟩;refine dG (G5 d) ?_;rintro _ td ⟨rfl,h2⟩
 cases h with
 | int k k' hs hd=>
  rw[hs] at h1;injection h1 with h1;subst h1;rw[hd] at h2;injection h2 with h2;subst h2
  cases hx<;>first|exact fA (.int _ _)|exact C9 _ _
 | bytes e hs he hd=>
  rw[hs] at h1;injection h1 with h1;subst h1;rw[hd] at h2;injection h2 with h2;subst h2;have key:∀{x x':aX},VR S x x'->Im S P (VR S) (do match <-underlying e with|.int .u8=>Conv.bytesToString x|.int .i32=>Conv.runesToString x|_=>stuck "Convert: a slice of what to string?":Sem Value) (do match <-underlying e with|.int .u8=>Conv.bytesToString x'|.int .i32=>Conv.runesToString x'|_=>stuck "Convert: a slice of what to string?":Sem Value):=by intro x x' hx;refine dG (G5 e) ?_;rintro _ te ⟨rfl,h3⟩;rw[he] at h3;injection h3 with h3;subst h3;exact a7O hx
  cases hx with
  | int k n=>exact fA (.string _)
  | string s=>exact fA (.string _)
  | _=>exact key Vz
end
end Go.Bi
