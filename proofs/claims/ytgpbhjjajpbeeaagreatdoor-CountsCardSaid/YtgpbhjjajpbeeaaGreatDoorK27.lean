/- A part of what the last file proves. -/
import Derived.Test.YtgpbhjjajpbeeaaGreatDoorK26
set_option linter.all false
namespace Go.Bi
section
variable{S:Sit}{P:Program}
structure SB where
 F:FuncId->Bool
 T:TypeId->Bool
variable(B:SB)(P:Program)
def a9r:Nat->Value->Bool
 | 0,_=>false
 | n+1,v=>match v with
  | .bool _|.int .. | .string _|.pointer none|.slice none _ _|.nilIface=>true
  | .iface t v=>B.T t&&a9r n v
  | .agg c|.tuple c=>c.toList.all (a9r n)
  | _=>false
def a3G(t:TypeId):Bool:=match P.info? t with
 | some i=>(match i.zero with|some z=>a9r B 6 z|none=>true)
 | none=>true
def b4I:Operand->Bool
 | .tmp _=>true
 | .const v=>a9r B 6 v
 | .global _=>false
 | .func f=>B.F f
def sliceB(t:TypeId):Option TypeId:=match P.underlying t with
 | some (.slice e)=>some e
 | _=>none
def b1w(t:TypeId):Bool:=match P.underlying t with
 | some (.int _)=>true
 | _=>false
def b21(c:Call):Bool:=match c.callee with
 | .value (.func f)=>B.F f
 | .builtin .len=>(match c.argTypes[0]? with|some u=>(sliceB P u).isSome|none=>false)
 | .builtin .append=>(match c.argTypes[0]?,c.argTypes[1]? with
  | some u,some u'=>(match sliceB P u,sliceB P u' with|some e,some _=>a3G B P e|_,_=>false)
  | _,_=>false)
 | _=>false
def b7L(t:TypeId)(y:Operand):Bool:=b1w P t||(match P.underlying t,y with|some (.interface _),.const .nilIface=>true|_,_=>false)
def cvB(s d:TypeId):Bool:=(b1w P s&&b1w P d)||(match P.underlying s,P.underlying d with
 | some (.slice e),some .string=>(match P.underlying e with|some (.int .u8)=>true|_=>false)
 | _,_=>false)
def c4M:BinOp->Bool
 | .eql|.neq=>true
 | _=>false
def opB(o:Op):Bool:=match o with
 | .move _|.assign _|.pick .. | .load .. | .store .. | .nilCheck _|.extract .. | .indexAddr .. | .slice .. | .unOp ..=>true
 | .alloc t|.build t _=>a3G B P t
 | .buildSlice t _ _=>(match sliceB P t with|some e=>a3G B P e|none=>true)
 | .binOp op t _ y _=>c04 op||(c4M op&&b7L P t y)
 | .convert s d _=>cvB P s d
 | .makeInterface t _=>B.T t
 | .fieldAddr s _ f=>(match P.underlying s with|some (.struct fs)=>(match fs[f]? with|some g=>(match P.info? g.type with|some i=>i.size != 0|none=>true)|none=>true)|_=>true)
 | .call c=>b21 B P c
 | _=>false
def codeB:Code->Bool
 | .seq a b=>codeB a&&codeB b
 | .cond c a b=>b4I B c&&codeB a&&codeB b
 | .block _ b=>codeB b
 | .loop b=>codeB b
 | .region _ ops _=>ops.toList.all fun o=>opB B P o.op&&o.op.operands.toList.all (b4I B)
 | .skip|.label _|.exit _|.ret=>true
 | _=>false
variable{B P}
theorem a9r.sound(hT:∀t,B.T t=true->S.T t):∀(n:Nat)(v:Value),a9r B n v=true->VR S v v:=by
 intro n
 induction n with
 | zero=>intro v h;cases h
 | succ n ih=>
  have all:∀c:Array Value,c.toList.all (a9r B n)=true->∀(i:Nat)(h1:i<c.size)(h2:i<c.size),VR S c[i] c[i]:=fun c hc i h1 h2=>ih _ (List.all_eq_true.1 hc _ (by simp));intro v h;unfold a9r at h;split at h<;>first|(constructor;done)|skip
  ·simp only[Bool.and_eq_true] at h;exact .iface _ _ _ (hT _ h.1) (ih _ h.2)
  ·exact .agg _ _ rfl (all _ h)
  ·exact .tuple _ _ rfl (all _ h)
  ·cases h
section
variable(hT:∀t,B.T t=true->S.T t)(hF:∀f,B.F f=true->S.F f)
include hT
theorem a3G.sound{t:TypeId}(h:a3G B P t=true):ZOK S P t:=by
 intro i z hi hz;unfold a3G at h;rw[hi] at h;dsimp only at h;rw[hz] at h;exact a9r.sound hT _ _ h
omit hT in
theorem sliceB.sound{t e:TypeId}(h:sliceB P t=some e):P.underlying t=some (.slice e):=by
 unfold sliceB at h;split at h
 ·rename_i e' he;injection h with h;subst h;exact he
 ·cases h
omit hT in
theorem b1w.sound{t:TypeId}(h:b1w P t=true):∃k,P.underlying t=some (.int k):=by
 unfold b1w at h;split at h
 ·rename_i k hk;exact⟨k,hk⟩
 ·cases h
include hF
theorem b4I.sound{x:Operand}(h:b4I B x=true):b1R S x:=by
 cases x with
 | tmp t=>trivial
 | const v=>exact a9r.sound hT _ _ h
 | global g=>cases h
 | func f=>exact hF f h
theorem b21.sound{c:Call}(h:b21 B P c=true):b8y S P c:=by
 unfold b21 at h;unfold b8y;split at h<;>rename_i hc
 ·rw[hc];exact hF _ h
 ·rw[hc];dsimp only;split at h
  ·rename_i u hu;obtain⟨e,he⟩:=Option.isSome_iff_exists.1 h;exact⟨e,fun u' hu'=>by rw[hu] at hu';injection hu' with hu';subst hu';exact sliceB.sound he⟩
  ·cases h
 ·rw[hc];dsimp only;split at h
  ·rename_i u u' hu hu';split at h
   ·rename_i e e' he he';exact⟨e,e',fun x hx=>by rw[hu] at hx;injection hx with hx;subst hx;exact sliceB.sound he,a3G.sound hT h,fun x hx=>by rw[hu'] at hx;injection hx with hx;subst hx;exact sliceB.sound he'⟩
   ·cases h
  ·cases h
 ·cases h
omit hT hF in
theorem b7L.sound{t:TypeId}{y:Operand}(h:b7L P t y=true):b5c P t y:=by
 unfold b7L at h;rw[Bool.or_eq_true] at h;rcases h with h|h
 ·obtain⟨k,hk⟩:=b1w.sound h;exact .int k hk y
 ·split at h
  ·rename_i ms hms;exact .nil ms hms
  ·cases h
omit hT hF in
theorem cvB.sound{s d:TypeId}(h:cvB P s d=true):c2S P s d:=by
 unfold cvB at h;rw[Bool.or_eq_true,Bool.and_eq_true] at h;rcases h with⟨h1,h2⟩|h
 ·obtain⟨k,hk⟩:=b1w.sound h1;obtain⟨k',hk'⟩:=b1w.sound h2;exact .int k k' hk hk'
 ·split at h
  ·rename_i e h1 h2;split at h
   ·rename_i h3;exact .bytes e h1 h3 h2
   ·cases h
  ·cases h
theorem opB.sound{o:Op}(h:opB B P o=true):OpB S P o:=by
 cases o<;>first|trivial|(cases h;done)|skip
 case alloc t=>exact a3G.sound hT h
 case build t xs=>exact a3G.sound hT h
 case buildSlice t n xs=>
  intro e he;have h':(match sliceB P t with|some e=>a3G B P e|none=>true)=true:=h;have:sliceB P t=some e:=by unfold sliceB;rw[he]
  rw[this] at h';exact a3G.sound hT h'
 case binOp op t x y u=>
  have h':(c04 op||(c4M op&&b7L P t y))=true:=h;rw[Bool.or_eq_true,Bool.and_eq_true] at h';rcases h' with h'|⟨h1,h2⟩
  ·exact .inl h'
  ·refine .inr ⟨?_,b7L.sound h2⟩;cases op<;>first|exact .inl rfl|exact .inr rfl|cases h1
 case convert s d x=>exact cvB.sound h
 case makeInterface t x=>exact hT _ h
 case call c=>exact b21.sound hT hF h
 case fieldAddr s x f=>
  intro fs g i h1 h2 h3;have h':(match P.underlying s with|some (.struct fs)=>(match fs[f]? with|some g=>(match P.info? g.type with|some i=>i.size != 0|none=>true)|none=>true)|_=>true)=true:=h;rw[h1] at h';dsimp only at h';rw[h2] at h';dsimp only at h';rw[h3] at h';simpa using h'
theorem codeB.sound:∀{c:Code},codeB B P c=true->CodeB S P Zn.Full c:=by
 intro c
 induction c with
 | seq a b iha ihb=>intro h;simp only[codeB,Bool.and_eq_true] at h;exact⟨iha h.1,ihb h.2⟩
 | cond c a b iha ihb=>intro h;simp only[codeB,Bool.and_eq_true] at h;exact⟨⟨b4I.sound hT hF h.1.1,fun _ _=>trivial⟩,iha h.1.2,ihb h.2⟩
 | block _ b ih=>intro h;exact ih h
 | loop b ih=>intro h;exact ih h
 | region _ ops _=>
  intro h o ho;have:=List.all_eq_true.1 (show(ops.toList.all fun o=>opB B P o.op&&o.op.operands.toList.all (b4I B))=true from h) o (by simpa using ho);simp only[Bool.and_eq_true] at this
  exact⟨opB.sound hT hF this.1,fun x hx=>⟨b4I.sound hT hF (List.all_eq_true.1 this.2 x (by simpa using hx)),fun _ _=>trivial⟩,fun _ _=>trivial⟩
 | skip=>intro _;trivial
 | label _=>intro _;trivial
 | exit _=>intro _;trivial
 | ret=>intro _;trivial
 | _=>intro h;cases h
end
end
end Go.Bi
namespace Go.Zn
section
def b1x(f:Tmp->Bool):Operand->Bool
 | .tmp t=>f t
 | _=>true
def useB(f:Tmp->Bool):Code->Bool
 | .seq a b=>useB f a&&useB f b
 | .cond c a b=>b1x f c&&useB f a&&useB f b
 | .block _ b=>useB f b
 | .loop b=>useB f b
 | .scope b=>useB f b
 | .region _ ops _=>ops.toList.all fun o=>o.op.operands.toList.all (b1x f)
 | .rangeFunc _ _ _ _=>false
 | _=>true
def b1y(f:Tmp->Bool):Code->Bool
 | .seq a b=>b1y f a&&b1y f b
 | .cond _ a b=>b1y f a&&b1y f b
 | .block _ b=>b1y f b
 | .loop b=>b1y f b
 | .region _ ops _=>ops.toList.all fun o=>match o.dst with|some t=>f t|none=>true
 | _=>true
variable{f:Tmp->Bool}
theorem b1x.sound{x:Operand}(h:b1x f x=true):∀t,x=.tmp t->f t=true:=by
 rintro t rfl;exact h
theorem useB.sound:∀{c:Code},useB f c=true->CodeU (fun t=>f t=true) c:=by
 intro c
 induction c with
 | seq a b iha ihb=>intro h;simp only[useB,Bool.and_eq_true] at h;exact⟨iha h.1,ihb h.2⟩
 | cond _ a b iha ihb=>intro h;simp only[useB,Bool.and_eq_true] at h;exact⟨iha h.1.2,ihb h.2⟩
 | block _ b ih=>intro h;exact ih h
 | loop b ih=>intro h;exact ih h
 | scope b ih=>intro h;exact ih h
 | region _ ops _=>
  intro h o ho x hx;have h1:=List.all_eq_true.1 (show(ops.toList.all fun o=>o.op.operands.toList.all (b1x f))=true from h) o (by simpa using ho)
  exact(List.all_eq_true.1 h1 x (by simpa using hx) |> b1x.sound)
 | rangeFunc _ _ _ _=>intro h;cases h
 | _=>intro _;trivial
theorem codeB_x{S:Bi.Sit}{P:Program}:∀{c:Code},Bi.CodeB S P Full c->useB f c=true->b1y f c=true->Bi.CodeB S P (fun t=>f t=true) c:=by
 intro c
 induction c with
 | seq a b iha ihb=>intro h hu hd;simp only[useB,b1y,Bool.and_eq_true] at hu hd;exact⟨iha h.1 hu.1 hd.1,ihb h.2 hu.2 hd.2⟩
 | cond c a b iha ihb=>intro h hu hd;simp only[useB,b1y,Bool.and_eq_true] at hu hd;exact⟨⟨h.1.1,b1x.sound hu.1.1⟩,iha h.2.1 hu.1.2 hd.1,ihb h.2.2 hu.2 hd.2⟩
 | block _ b ih=>intro h hu hd;exact ih h hu hd
 | loop b ih=>intro h hu hd;exact ih h hu hd
 | region _ ops _=>
  intro h hu hd o ho;obtain⟨h1,h2,h3⟩:=h o ho;have hu1:=List.all_eq_true.1 (show(ops.toList.all fun o=>o.op.operands.toList.all (b1x f))=true from hu) o (by simpa using ho);have hd1:=List.all_eq_true.1 (show(ops.toList.all fun o=>match o.dst with|some t=>f t|none=>true)=true from hd) o (by simpa using ho);refine⟨h1,fun x hx=>⟨(h2 x hx).1,(List.all_eq_true.1 hu1 x (by simpa using hx) |> b1x.sound)⟩,fun t ht=>?_⟩;rw[ht] at hd1
  exact hd1
 | skip=>intro h _ _;trivial
 | label _=>intro h _ _;trivial
 | exit _=>intro h _ _;trivial
 | ret=>intro h _ _;trivial
 | _=>intro h;exact(h:False).elim
end
end Go.Zn
namespace Go.Proofs.YtgpbhjjajpbeeaaGreatDoor
section
open Go.RowKit Go.Bi
def sb:SB:={F:=fun f=>[61,71,126,127,128,166].contains f,T:=fun t=>t==37}
noncomputable def c2H(f:Nat):Bool:=match Tryz.prog.funcs[f]? with
 | some fn=>(match fn.body with|some c=>codeB sb Tryz.prog c|none=>false)&&fn.name != "runtime.NumGoroutine"
 | none=>false
theorem c5h:[61,71,126,127,128,166].all c2H=true:=by kernel_rfl
def wF(f:FuncId):Prop:=sb.F f=true
def wT(t:TypeId):Prop:=sb.T t=true
theorem b5U{f:FuncId}(h:wF f):∃fn c,Tryz.prog.funcs[f]?=some fn/\fn.body=some c/\codeB sb Tryz.prog c=true/\(fn.name== "runtime.NumGoroutine")=false:=by
 have hm:f∈[61,71,126,127,128,166]:=by simpa [wF,sb] using h
 have h1:=List.all_eq_true.1 c5h f hm;unfold c2H at h1;split at h1
 ·rename_i fn hfn;rw[Bool.and_eq_true] at h1;obtain⟨h2,h3⟩:=h1;split at h2
  ·rename_i c hc;exact⟨fn,c,hfn,hc,h2,by simpa using h3⟩
  ·cases h2
 ·cases h1
theorem pqb{S:Sit}(hF:S.F=wF)(high:∀b,S.D b->Tryz.prog.globals.size<=b)(high':∀b,S.D b->Tryz.prog.globals.size<=S.ren b)(inj:∀a b,S.D a->S.D b->S.ren a=S.ren b->a=b):PQB S Tryz.prog:=
 ⟨⟨⟨high,inj⟩,high'⟩,fun f hf=>by
  obtain⟨fn,c,h1,h2,_,h4⟩:=b5U (f:=f) (hF▸hf);exact⟨fn,h1,by rw[h2];rfl,h4⟩⟩
theorem c0P{S:Sit}(hF:S.F=wF)(hT:S.T=wT)(f:FuncId)(fn:Func)(c:Code)(hf:S.F f)(h1:Tryz.prog.funcs[f]?=some fn)(h2:fn.body=some c):CodeB S Tryz.prog Zn.Full c:=by
 obtain⟨fn',c',k1,k2,k3,_⟩:=b5U (f:=f) (hF▸hf);obtain rfl:=Option.some.inj (k1.symm.trans h1);obtain rfl:=Option.some.inj (k2.symm.trans h2);exact codeB.sound (fun t ht=>by rw[hT];exact ht) (fun f hf=>by rw[hF];exact hf) k3
end
section
open Go.RowKit Go.Conc Go.Conc.Lib Go.Mw Go.Mc Go.Bi
open Go.ConcN (WgLive Has AtR0)
open Pl
open Zn (ext low kk Gr K0 Nx Full tp WPs Zf)
set_option linter.unusedSectionVars false
variable[Go.ConcR.Payload]
def fW(t:Tmp):Bool:=[1,2,6,7,8,9,10,11,12].contains t
abbrev xW(t:Tmp):Prop:=fW t=true
theorem c4C:Zn.CodeP zone workR1:=Zn.cOK.sound (by kernel_rfl)
theorem c5c:Zn.CodeU xW workR1:=Zn.useB.sound (by kernel_rfl)
theorem c3q{S:Sit}(hF:S.F=wF)(hT:S.T=wT):CodeB S Tryz.prog xW workR1:=
 Zn.codeB_x (codeB.sound (B:=sb) (fun t ht=>by rw[hT];exact ht) (fun f hf=>by rw[hF];exact hf) (by kernel_rfl)) (by kernel_rfl) (by kernel_rfl)
theorem b3Q{S:Sit}{w w2:World}{base n size:Nat}{e:TypeId}{v v':Value}{xs:List Value}(hW:WR S w w2)(hv:VR S v v')(h:w.ownsRow base e size v n xs)(hfl:∀x∈xs,∀y,VR S x y->y=x):
 a1L w2 e size v' n xs/\∀g,v'.ownBlock=some g->∃a,S.D a/\base<=a/\S.ren a=g:=by
 rcases h.2 with⟨rfl,rfl⟩|⟨g,cap,cur,rfl,hb,hg,hnc,hcm,hcs,htake⟩
 ·cases hv;exact⟨⟨h.1,.inl ⟨rfl,rfl⟩⟩,fun g hg=>by cases hg⟩
 ·cases hv with
  | slice a n c hD=>
   obtain⟨o',ho',hR⟩:=hW.get hD hg
   cases hR with
   | cells c c' e fr fr' hc hf=>
    refine⟨⟨h.1,.inr ⟨S.ren g,cap,c',fr',rfl,ho',hnc,hcm,hc.size.symm.trans hcs,?_⟩⟩,fun k hk=>⟨g,hD,hb,by simpa [Value.ownBlock] using hk⟩⟩;rw[<-htake];apply List.ext_getElem?;intro i;rw[List.getElem?_take,List.getElem?_take];split
    ·rename_i hi;rcases hc.get? i with⟨h1,h2⟩|⟨x,y,h1,h2,h3⟩
     ·rw[Array.getElem?_toList,Array.getElem?_toList,h1,h2]
     ·rw[Array.getElem?_toList,Array.getElem?_toList,h1,h2,hfl x ?_ y h3];rw[<-htake];have:(cur.toList.take (n*size))[i]?=some x:=by rw[List.getElem?_take,if_pos hi,Array.getElem?_toList,h1]
      exact List.mem_of_getElem? this
    ·rfl
theorem a9b{S:Sit}(k:Int)(l:List (Nat×Rec)):∀x∈l.flatMap (I4 k),∀y,VR S x y->y=x:=by
 intro x hx y hy;obtain⟨p,_,hp⟩:=List.mem_flatMap.1 hx;simp only[I4,List.mem_cons,List.not_mem_nil,or_false] at hp;rcases hp with rfl|rfl|rfl|rfl|rfl|rfl|rfl<;>cases hy<;>rfl
theorem bytes_at{w w':World}(h:∀a,a.block<w.heap.size->w'.cell? a=w.cell? a){v:Value}{l:List UInt8}(hb:Bytes w v l):Bytes w' v l:=by
 obtain⟨a,c,rfl,h1,h2,h3⟩:=hb;refine⟨a,c,rfl,h1,h2,fun hx=>?_⟩;obtain⟨b,rfl,h4⟩:=h3 hx;exact⟨b,rfl,fun i x hi=>(h _ (lt_of_cell (h4 i x hi))).trans (h4 i x hi)⟩
def AW1(m:Nat)(l:List UInt8)(i:Nat)(F:Frame)(w':World):Prop:=∃a',F=(base 59).at a' K0/\a'.defers=[]/\a'.tmps.size=29/\a'.tmps[1]?=some (.pointer (some ⟨m - 1,0,none⟩))/\∃u,a'.tmps[6]?=some u/\w'.ownsRow m 160 7 u (A9 l).length ((A9 l).flatMap (I4 i))
theorem b9j{i n fc fb rb:Nat}{w:World}{Sh DB:Nat->Prop}{v:Value}{l:List UInt8}(hW:WPs zone Sh w)(hfbS:¬Sh fb)(hfb:w.cell? ⟨fb,0,none⟩=some (.slice (some ⟨rb,0,none⟩) n fc))(hn:i<n/\n<=fc/\n<2147483648)(hc:w.cell? ⟨rb,i,none⟩=some v)(hv:Bytes w v l)(hl:l.length<=1099511627776):
 Zn.Goe Tryz.prog zone Sh xW (AW1 (w.heap.size+1) l i) ((base 59).at ⟨vW undef undef undef undef w.heap.size fb,[]⟩ [.code workR1]) [] (ice DB w (.cells #[.int .i64 i] 3 (0,1))):=by
 have hwl:WPs zone Sh (ice DB w (.cells #[.int .i64 i] 3 (0,1))):=c1b hW (.cells _ _ _ (Zn.AP.one (.int .i64 i)));have hmS:¬Sh w.heap.size:=fun h=>by have:=hW.sh _ h;omega
 refine b6a (Q0:=fun e a' w'=>e=.normal/\a'.defers=[]/\a'.tmps.size=29/\a'.tmps[1]?=some (.pointer (some ⟨w.heap.size+1 - 1,0,none⟩))/\∃u,a'.tmps[6]?=some u/\w'.ownsRow (w.heap.size+1) 160 7 u (A9 l).length ((A9 l).flatMap (I4 i))) pqk ⟨?_,fun d hd=>(by cases hd),hwl⟩ rfl c4C c5c (fun τ p=>?_) ?_ ?_
 ·intro t ht;have hm:t=1\/t=2\/t=6\/t=7\/t=8\/t=9\/t=10\/t=11\/t=12:=by
   have h':fW t=true:=ht;simpa [fW] using h'
  rcases hm with rfl|rfl|rfl|rfl|rfl|rfl|rfl|rfl|rfl
  ·exact .ptr _ ⟨by rw[X0];exact Nat.lt_succ_self _,hmS⟩
  ·exact .ptr _ ⟨by rw[X0];exact Nat.lt_succ_of_lt (lt_of_cell hfb),hfbS⟩
  all_goals exact .tuple _ Zn.AP.nil
 ·have hold:∀a:Addr,a.block<w.heap.size->(tp (ice DB w (.cells #[.int .i64 i] 3 (0,1))) τ p).cell? a=w.cell? a:=fun a h=>b8B (D:=DB) h;have hb:(tp (ice DB w (.cells #[.int .i64 i] 3 (0,1))) τ p).cell? ⟨w.heap.size,0,none⟩=some (.int .i64 i):=by
   show(ice DB w (.cells #[.int .i64 i] 3 (0,1))).cell? _=_;simp[World.cell?,a7w]
  refine Code.wp_mono ?_ (c4v undef undef undef undef w.heap.size fb rb i n fc v l _ hb ((hold _ (lt_of_cell hfb)).trans hfb) hn.1 hn.2.1 hn.2.2 ((hold _ (lt_of_cell hc)).trans hc) (bytes_at hold hv) hl);intro e a' w' q;cases e<;>first|exact q.elim|skip
  obtain⟨q1,q1',q1'',u,q2,q3,-⟩:=q;refine⟨rfl,q1,q1',q1'',u,q2,?_⟩;have e1:(tp (ice DB w (.cells #[.int .i64 i] 3 (0,1))) τ p).heap.size=w.heap.size+1:=X0;rw[e1] at q3;exact q3
 ·rintro e a' w' ⟨rfl,h1,h2⟩;exact⟨rfl,a',rfl,h1,h2⟩
 ·rintro F w' ⟨a',rfl,_⟩;exact⟨a',rfl⟩
theorem c4D(T:Array Value)(hT:T.size=29):T=#[T.getD 0 undef,T.getD 1 undef,T.getD 2 undef,T.getD 3 undef,T.getD 4 undef,T.getD 5 undef,T.getD 6 undef,T.getD 7 undef,T.getD 8 undef,T.getD 9 undef,T.getD 10 undef,T.getD 11 undef,T.getD 12 undef,T.getD 13 undef,T.getD 14 undef,T.getD 15 undef,T.getD 16 undef,T.getD 17 undef,T.getD 18 undef,T.getD 19 undef,T.getD 20 undef,T.getD 21 undef,T.getD 22 undef,T.getD 23 undef,T.getD 24 undef,T.getD 25 undef,T.getD 26 undef,T.getD 27 undef,T.getD 28 undef]:=by
 apply Array.ext
 ·exact hT
 intro j h1 h2;have hg:∀k(h:k<T.size),T[k]=T.getD k undef:=fun k h=>by simp[Array.getD,h]
 rw[hg];have h3:j<29:=by omega
 match j,h3 with
 | 0,_=>rfl
 | 1,_=>rfl
 | 2,_=>rfl
 | 3,_=>rfl
 | 4,_=>rfl
 | 5,_=>rfl
 | 6,_=>rfl
 | 7,_=>rfl
 | 8,_=>rfl
 | 9,_=>rfl
 | 10,_=>rfl
 | 11,_=>rfl
 | 12,_=>rfl
 | 13,_=>rfl
 | 14,_=>rfl
 | 15,_=>rfl
 | 16,_=>rfl
 | 17,_=>rfl
 | 18,_=>rfl
 | 19,_=>rfl
 | 20,_=>rfl
 | 21,_=>rfl
 | 22,_=>rfl
 | 23,_=>rfl
 | 24,_=>rfl
 | 25,_=>rfl
 | 26,_=>rfl
 | 27,_=>rfl
 | 28,_=>rfl
 | k+29,h=>exact absurd h (by omega)
theorem c1y{f:FuncId}(h:wF f):zone.F f:=by
 have hm:f∈[61,71,126,127,128,166]:=by simpa [wF,sb] using h
 have:[61,71,126,127,128,166].all (fun f=>fs.testBit f)=true:=by decide +kernel
 exact List.all_eq_true.1 this f hm
theorem c1z{Z:Pz}{i bx n fc fb rb:Nat}{w w2:World}{Sh DB:Nat->Prop}{v:Value}{l:List UInt8}{Stop:(Nat->Prop)->Goroutine->World->Prop}(hZ:S9 Z)(hP:Z.P=Tryz.prog)(hW:WPs zone Sh w)(V0 V3 V4 V5:Value)(ds:List Deferred)
 (hDB:∀b,DB b->Tryz.prog.globals.size<=b/\b<w.heap.size/\Z.Eld b/\w2.heap[b]?=w.heap[b]?/\∃c e fr,w.heap[b]?=some (.cells c e fr)/\∀v∈c,Plain DB v)(hfbD:DB fb)(hfbS:¬Sh fb)
 (hfb:w.cell? ⟨fb,0,none⟩=some (.slice (some ⟨rb,0,none⟩) n fc))(hn:i<n/\n<=fc/\n<2147483648)(hc:w.cell? ⟨rb,i,none⟩=some v)(hv:Bytes w v l)(hl:l.length<=1099511627776)
 (hbx:w2.heap[bx]?=some (.cells #[.int .i64 i] 3))(hbL:Z.L0<=bx/\w.heap.size<=bx)(hL:Z.L0<=w2.heap.size)(hLw:w.heap.size<=Z.L0)(gl:Tryz.prog.globals.size<=w.heap.size)
 (hk:∀(O:Nat->Prop)(u V2 x7 x8 x9 x10 x11 x12:Value)(w3:World),Nw Z O w3->¬O bx->Kp Z bx w2 w3->a1L w3 160 7 u (A9 l).length ((A9 l).flatMap (I4 i))->(∀g,u.ownBlock=some g->O g)->
   (∀b,O b->∃o,w3.heap[b]?=some o/\Zn.ObjP {zone with D:=fun b=>DB b\/b=bx\/O b} o)->
   ∃T,Ww Z i bx Stop T O (G ((baseD 59).at ⟨#[V0,.pointer (some ⟨bx,0,none⟩),V2,V3,V4,V5,u,x7,x8,x9,x10,x11,x12,undef,undef,undef,undef,undef,undef,undef,undef,undef,undef,undef,undef,undef,undef,undef,undef],ds⟩ [.code (a1b 2)]) [bot]) w3):
 ∃T,Ww Z i bx Stop T (fun _=>False) (G ((baseD 59).at ⟨#[V0,.pointer (some ⟨bx,0,none⟩),.pointer (some ⟨fb,0,none⟩),V3,V4,V5,undef,undef,undef,undef,undef,undef,undef,undef,undef,undef,undef,undef,undef,undef,undef,undef,undef,undef,undef,undef,undef,undef,undef],ds⟩ [.code workR1,.code (a1b 2)]) [bot]) w2:=by
 have hT2s:(#[V0,.pointer (some ⟨bx,0,none⟩),.pointer (some ⟨fb,0,none⟩),V3,V4,V5,undef,undef,undef,undef,undef,undef,undef,undef,undef,undef,undef,undef,undef,undef,undef,undef,undef,undef,undef,undef,undef,undef,undef]:Array Value).size=29:=rfl;obtain⟨T2,hT2⟩:∃T2:Array Value,T2=#[V0,.pointer (some ⟨bx,0,none⟩),.pointer (some ⟨fb,0,none⟩),V3,V4,V5,undef,undef,undef,undef,undef,undef,undef,undef,undef,undef,undef,undef,undef,undef,undef,undef,undef,undef,undef,undef,undef,undef,undef]:=⟨_,rfl⟩;rw[<-hT2] at hT2s⊢;have hgoe:=b9j (DB:=DB) hW hfbS hfb hn hc hv hl;have hDlt:∀b,DB b->b<w.heap.size:=fun b h=>(hDB b h).2.1;have hne:∀b,DB b->b≠w.heap.size:=fun b h=>by have:=hDlt b h;omega
 have hbxl:bx<w2.heap.size:=Bi.lt_of_some hbx;have hwr:WR (a2x DB wF wT w.heap.size bx (fun t=>T2.getD t undef) ds .deferred) (ice DB w (.cells #[.int .i64 i] 3 (0,1))) w2:=
  c1c (fun b h=>⟨(hDB b h).2.1,(hDB b h).2.2.2⟩) hbx hbL.2
 have ren1:∀b,DB b->(a2x DB wF wT w.heap.size bx (fun t=>T2.getD t undef) ds .deferred).ren b=b:=fun b h=>if_neg (hne b h);have ren2:(a2x DB wF wT w.heap.size bx (fun t=>T2.getD t undef) ds .deferred).ren w.heap.size=bx:=if_pos rfl;have hfr:FrR (a2x DB wF wT w.heap.size bx (fun t=>T2.getD t undef) ds .deferred) Tryz.prog xW [] ((base 59).at ⟨vW undef undef undef undef w.heap.size fb,[]⟩ [.code workR1]) ((baseD 59).at ⟨T2,ds⟩ [.code workR1]):=by
  refine⟨rfl,hT2s,?_,rfl,?_,rfl,.inl rfl,rfl,rfl,⟨by simp[base,Frame.at],by simp[baseD,Frame.at]⟩,fun h=>absurd rfl h,rfl,fun t _=>rfl,fun _=>⟨rfl,rfl⟩⟩
  ·intro t ht;have hm:t=1\/t=2\/t=6\/t=7\/t=8\/t=9\/t=10\/t=11\/t=12:=by
    have h':fW t=true:=ht;simpa [fW] using h'
   subst hT2;rcases hm with rfl|rfl|rfl|rfl|rfl|rfl|rfl|rfl|rfl
   ·have:=VR.ptr (S:=a2x DB wF wT w.heap.size bx (fun t=>(#[V0,.pointer (some ⟨bx,0,none⟩),.pointer (some ⟨fb,0,none⟩),V3,V4,V5,undef,undef,undef,undef,undef,undef,undef,undef,undef,undef,undef,undef,undef,undef,undef,undef,undef,undef,undef,undef,undef,undef,undef]:Array Value).getD t undef) ds .deferred) ⟨w.heap.size,0,none⟩ (.inr rfl);unfold rA at this;rw[ren2] at this;exact this
   ·have:=VR.ptr (S:=a2x DB wF wT w.heap.size bx (fun t=>(#[V0,.pointer (some ⟨bx,0,none⟩),.pointer (some ⟨fb,0,none⟩),V3,V4,V5,undef,undef,undef,undef,undef,undef,undef,undef,undef,undef,undef,undef,undef,undef,undef,undef,undef,undef,undef,undef,undef,undef,undef]:Array Value).getD t undef) ds .deferred) ⟨fb,0,none⟩ (.inl hfbD);unfold rA at this;rw[ren1 fb hfbD] at this;exact this
   all_goals exact a2b
  ·intro x hx;obtain rfl:x=.code workR1:=by simpa [Frame.at] using hx
   exact .code _ (c3q rfl rfl)
 have hpq:PQB (a2x DB wF wT w.heap.size bx (fun t=>T2.getD t undef) ds .deferred) Tryz.prog:=by
  refine pqb rfl ?_ ?_ hwr.inj
  ·rintro b (h|rfl)
   ·exact(hDB b h).1
   ·exact gl
  ·rintro b (h|rfl)
   ·rw[ren1 b h];exact(hDB b h).1
   ·rw[ren2];omega
 have hwk:=c2W (Rd1 Z bx) (a2x DB wF wT w.heap.size bx (fun t=>T2.getD t undef) ds .deferred) pqk (fun F w τ p h=>h) [.code (a1b 2)] [bot] hgoe _ ((baseD 59).at ⟨T2,ds⟩ [.code workR1]) [] w2 (fun _=>False) (.refl _) (fun b h=>.inl h)
  (fun f fn c=>c0P rfl rfl f fn c) hpq (b8C hDlt _ _) hfr .nil hwr (fun b=>⟨fun h=>h.elim,fun⟨a,_,h,_⟩=>h.elim⟩) (by
   rintro a (h|rfl)
   ·rw[ren1 a h];exact .inl (.inl (hDB a h).2.2.1)
   ·rw[ren2];exact .inl (.inr rfl)) (by rw[X0];omega) (by omega)
 have hbA:bx≠Z.Al:=by have:=hZ.A0;omega
 have hbC:bx≠Z.Cb:=by have:=hZ.C0;omega
 refine b2Y hZ (fun _ h=>h.elim) hL ⟨fun h=>h,hbxl,hbA,hbC⟩ (hP▸hwk) ?_;rintro O g w3 ⟨S,fr,fr2,wl,hle,hdw,rfl,hF,hWR,hcur,hImg,hro,⟨a',hFa,hda,h29,hu1,u,hu,hown⟩⟩ hN hOb hKp;obtain⟨f1,f2,f3,f4,f5,f6,f7⟩:=fr;simp only[ext,Frame.at,Frame.mk.injEq] at hFa;obtain⟨rfl,rfl,e3,rfl,rfl,rfl,rfl⟩:=hFa;obtain rfl:=To.append_self e3;obtain⟨g1,g2,g3,g4,g5,g6,g7⟩:=fr2;obtain⟨c1,c2,c3,c4,c5,c6,c7,c8,c9,c10,c11,c12,c13⟩:=hF;dsimp only at c1 c2 c3 c4 c6 c9;obtain⟨k1,k2⟩:=c13;have k3:=(k2 rfl).2;replace k2:=(k2 rfl).1;dsimp only at k1 k2 k3;subst c1 c4 c6 c9;rw[hle.k.2.1] at k2;rw[hle.k.2.2] at k3;subst k2 k3;rw[hle.k.1] at k1;have hsz:g2.size=29:=by omega
 have kept:∀t,fW t=false->g2.getD t undef=T2.getD t undef:=fun t ht=>k1 t fun h=>by
  have h':fW t=true:=h;rw[ht] at h';cases h'
 have q1:g2.getD 1 undef=.pointer (some ⟨bx,0,none⟩):=by
  have h1:=c3 1 (show fW 1=true by decide);rw[Array.getD_eq_getD_getElem?,hu1] at h1;have h2:∀y,VR S (.pointer (some ⟨w.heap.size+1 - 1,0,none⟩)) y->y=.pointer (some ⟨bx,0,none⟩):=by
   intro y hy
   cases hy with
   | ptr a ha=>
    unfold rA;rw[show w.heap.size+1 - 1=w.heap.size from rfl,hle.ren _ (.inr rfl),ren2]
  exact h2 _ h1
 have v6:VR S u (g2.getD 6 undef):=by
  have:=c3 6 (show fW 6=true by decide);rw[Array.getD_eq_getD_getElem?,hu] at this;exact this
 obtain⟨hrow,hrb⟩:=b3Q hWR v6 hown (a9b i _);have hS0:∀a,S.D a->w.heap.size+1<=a->S.W a:=fun a h1 h2=>by
  rcases hdw a h1 with(h|h)|h
  ·have:=hDlt a h;omega
  ·omega
  ·exact h
 have:=hk O (g2.getD 6 undef) (g2.getD 2 undef) (g2.getD 7 undef) (g2.getD 8 undef) (g2.getD 9 undef) (g2.getD 10 undef) (g2.getD 11 undef) (g2.getD 12 undef) w3 hN hOb hKp hrow (fun g hg=>by
  obtain⟨a,h1,h2,rfl⟩:=hrb g hg;exact(hImg _).2 ⟨a,h1,hS0 a h1 h2,rfl⟩) (fun b hb=>by
  obtain⟨a,h1,h2,rfl⟩:=(hImg b).1 hb;obtain⟨o,o',h3,h4,h5⟩:=hWR.obj a h1 (hcur a h1);refine⟨o',h4,h5.right (fun b h=>?_) (fun f h=>?_) fun t _=>rfl⟩
  ·rcases hdw b h with(h|h)|h
   ·rw[hle.ren b (.inl h),ren1 b h];exact .inl h
   ·rw[hle.ren b (.inr h),h,ren2];exact .inr (.inl rfl)
   ·exact .inr (.inr ((hImg _).2 ⟨b,‹_›,h,rfl⟩))
  ·rw[hle.F] at h;exact c1y h)
 have e29:=c4D g2 hsz;rw[show g2.getD 0 undef=V0 by rw[kept 0 (by decide),hT2];rfl] at e29;rw[show g2.getD 3 undef=V3 by rw[kept 3 (by decide),hT2];rfl] at e29;rw[show g2.getD 4 undef=V4 by rw[kept 4 (by decide),hT2];rfl] at e29;rw[show g2.getD 5 undef=V5 by rw[kept 5 (by decide),hT2];rfl] at e29;rw[show g2.getD 13 undef=undef by rw[kept 13 (by decide),hT2];rfl] at e29;rw[show g2.getD 14 undef=undef by rw[kept 14 (by decide),hT2];rfl] at e29;rw[show g2.getD 15 undef=undef by rw[kept 15 (by decide),hT2];rfl] at e29;rw[show g2.getD 16 undef=undef by rw[kept 16 (by decide),hT2];rfl] at e29;rw[show g2.getD 17 undef=undef by rw[kept 17 (by decide),hT2];rfl] at e29;rw[show g2.getD 18 undef=undef by rw[kept 18 (by decide),hT2];rfl] at e29;rw[show g2.getD 19 undef=undef by rw[kept 19 (by decide),hT2];rfl] at e29;rw[show g2.getD 20 undef=undef by rw[kept 20 (by decide),hT2];rfl] at e29;rw[show g2.getD 21 undef=undef by rw[kept 21 (by decide),hT2];rfl] at e29;rw[show g2.getD 22 undef=undef by rw[kept 22 (by decide),hT2];rfl] at e29;rw[show g2.getD 23 undef=undef by rw[kept 23 (by decide),hT2];rfl] at e29;rw[show g2.getD 24 undef=undef by rw[kept 24 (by decide),hT2];rfl] at e29;rw[show g2.getD 25 undef=undef by rw[kept 25 (by decide),hT2];rfl] at e29;rw[show g2.getD 26 undef=undef by rw[kept 26 (by decide),hT2];rfl] at e29;rw[show g2.getD 27 undef=undef by rw[kept 27 (by decide),hT2];rfl] at e29;rw[show g2.getD 28 undef=undef by rw[kept 28 (by decide),hT2];rfl] at e29;rw[q1] at e29;rw[<-e29] at this;exact this
end
section
open Go.RowKit Go.Conc Go.Conc.Lib Go.Mw Go.To
open Go.ConcN (WgLive)
open Go.ConcR (WgAt)
open Zn (tp)
open Go.Mc (Pz S9 R0 D0 W0 Spawns Fin Y7 X4 Works)
set_option linter.unusedSectionVars false
variable[Go.ConcR.Payload]
abbrev b9D:Oper:={dst:=some 12,op:=.alloc 143,type:=0,pos:= "keydir.go:115",after:=#[],guard:=none}
abbrev b9E:Oper:={dst:=some 13,op:=.alloc 149,type:=0,pos:= "keydir.go:116",after:=#[],guard:=none}
abbrev a4i:Array Oper:=#[{dst:=some 70,op:=.load 128 (.tmp 6),type:=128,pos:= "keydir.go:117",after:=#[],guard:=none},
 {dst:=some 71,op:=.call {callee:=.builtin .len,args:=#[.tmp 70],argTypes:=#[128]},type:=3,pos:= "keydir.go:117",after:=#[{on:=0,ground:=.data}],guard:=none},
 {dst:=some 72,op:=.move (.const (.int .i64 0)),type:=3,pos:= "keydir.go:117",after:=#[],guard:=none}]
theorem c3z:D8 6=.seq (.region 16 #[b9D] false) (D8 7):=by kernel_rfl
theorem c3A:D8 7=.seq (.region 17 #[b9E] false) (D8 8):=by kernel_rfl
theorem c3B:D8 8=.seq (.seq (.region 18 a4i false) (.block 2 (.loop R3))) (D8 9):=by kernel_rfl
theorem b9F(ρ:Operand->Value)(w:World):(execOp ρ b9D).run Tryz.prog w=.ok (.value (.pointer (some ⟨w.heap.size,0,none⟩))) (w.alloc (.cells #[.int .i64 0] 143))/\(execOp ρ b9D).events Tryz.prog w #[]=#[]:=by
 constructor<;>simp[go_sem]
theorem b9G(ρ:Operand->Value)(w:World):(execOp ρ b9E).run Tryz.prog w=.ok (.value (.pointer (some ⟨w.heap.size,0,none⟩))) (w.alloc (.cells #[.int .u64 0,.int .u32 0] 149))/\(execOp ρ b9E).events Tryz.prog w #[]=#[]:=by
 constructor<;>simp[go_sem]
theorem b5v{ρ:Operand->Value}{a:Option Addr}{n c:Nat}(h:ρ (.tmp 70)=.slice a n c)(w:World):(execOp ρ a4i[1]).run Tryz.prog w=.ok (.value (.int .i64 n)) w/\(execOp ρ a4i[1]).events Tryz.prog w #[]=#[]:=by
 constructor<;>simp[go_sem,h]
theorem b69{ρ:Operand->Value}{ad:Addr}{v:Value}(h:ρ (.tmp 6)=.pointer (some ad)){w:World}(hc:w.cell? ad=some v):(execOp ρ a4i[0]).run Tryz.prog w=.ok (.value v) w/\(execOp ρ a4i[0]).events Tryz.prog w #[]=#[⟨.cell ad,false,false⟩]:=by
 constructor<;>simp[go_sem,h,hc]
section
variable{P:Program}{B:Nat}{b:Frame}{a:Act}{k:List Item}{cs:List Frame}{w:World}{Sh:Nat->Prop}{Ψ:Goroutine->World->(Nat->Prop)->Prop}
theorem b5w[To.Lo]{ops:Array Oper}{i:Nat}{rest:List Nat}{o:Oper}(ho:ops[i]?=some o)(hw:Region.wanted o (yielded ops a.tmps)=true)(hk:b.kind≠.early)(he:∀w,(execOp a.eval o).events P w #[]=#[])
 (h:∀τ p,∃v w',(execOp a.eval o).run P (tp w τ p)=.ok (.value v) w'/\ToB P B (G (b.at (a.put o.dst v) (.inRegion ops rest::k)) cs) w' Sh Ψ):ToB P B (G (b.at a (.inRegion ops (i::rest)::k)) cs) w Sh Ψ:=by
 refine ToB.step rfl fun τ p=>?_;obtain⟨v,w',h1,h2⟩:=h τ p;refine⟨_,w',_,B,stepG_value ho hw hk h1,Nat.le_refl _,?_,h2⟩;rw[show listed P b.fn a o (tp w τ p)=#[] by unfold listed;rw[he];exact seen_none _ _];simp
end
section
variable{Z:Pz}{j:Nat}{Next Next':Option Nat->Goroutine->World->Prop}{x:Option Nat}{g:Goroutine}{w:World}{A A':Goroutine->World->Prop}
open Mc
theorem b33(h:∀x g w,Next x g w->Next' x g w)(k:AtGoS Z j Next x g w):AtGoS Z j Next' x g w:=let ⟨a,b,g',c,h1,h2,h3,h4,h5⟩:=k;⟨a,b,g',c,h1,h2,h3,h4,h _ _ _ h5⟩
theorem b34(h:∀x g w,Next x g w->Next' x g w)(k:AtKeS Z j Next x g w):AtKeS Z j Next' x g w:=let ⟨a,g',b,c⟩:=k;⟨a,g',b,Q9 (fun _ _ _=>b33 h) c⟩
theorem b7a(h:∀x g w,Next x g w->Next' x g w)(k:AtA1 Z j Next x g w):AtA1 Z j Next' x g w:=let ⟨a,b⟩:=k;⟨a,fun v hv hw=>let ⟨g',c,d⟩:=b v hv hw;⟨g',c,Q9 (fun _ _ _=>b34 h) d⟩⟩
theorem b35(h:∀x g w,Next x g w->Next' x g w)(k:AtKdS Z j Next x g w):AtKdS Z j Next' x g w:=let ⟨a,g',b,c⟩:=k;⟨a,g',b,Q9 (fun _ _ _=>b7a h) c⟩
theorem b2v(h:∀g w,A g w->A' g w):∀(r:Nat)(x:Option Nat)(g:Goroutine)(w:World),Spawns Z (Fin Z A) r x g w->Spawns Z (Fin Z A') r x g w:=by
 intro r
 induction r with
 | zero=>exact fun x g w⟨a,b⟩=>⟨a,Q9 (fun _ _ _=>b0n h) b⟩
 | succ r ih=>exact fun x g w k=>Q9 (Stop:=AtKdS Z (Z.n - (r+1)) (Spawns Z (Fin Z A) r)) (fun _ _ _=>b35 ih) k
end
noncomputable def mkZ(w:World)(Sh:Nat->Prop)(Cb fb:Nat)(v0:Value)(n:Nat)(Res:Nat->Nat->(Nat->Prop)->World->Prop):Pz:=
 {P:=Tryz.prog,ty:=149,Wg:=w.heap.size+1,Al:=w.heap.size,tAl:=143,Cb:=Cb,tCb:=154,c:=0,n:=n,L0:=w.heap.size+2,Eld:=fun b=>b<w.heap.size/\b≠Cb/\¬Sh b,ShB:=Sh,Res:=Res,e0:=fb,v0:=v0}
section
variable{Z:Pz}{c d:Nat}{T0:Array Value}{V4 V6 V11:Value}{K:List Item}{cs:List Frame}{x:Option Nat}{w w':World}{g:Goroutine}
theorem c1I(h:R0 (at_ Z c) x w w'):R0 (at_ Z d) x w w':=⟨h.size,h.eld,h.cur,h.live,h.shb⟩
theorem a8l{T:Array Value}{j:Nat}(h:Lay (at_ Z c) T0 V4 V6 V11 T j):Lay (at_ Z d) T0 V4 V6 V11 T j:=⟨h.size,h.t4,h.t6,h.t11,h.t12,h.t13,h.t71,h.t72,h.keep⟩
theorem a5T{w00:World}(h:a5c (at_ Z c) w00 T0 V4 V6 V11 K cs g w):a5c (at_ Z d) w00 T0 V4 V6 V11 K cs g w:=by
 obtain⟨T,h1,T',h2,h3,h4,h5⟩:=h;exact⟨T,a8l h1,T',h2,h3,h4,c1I h5.1,h5.2⟩
theorem b7b(h:b5s (at_ Z c) T0 V4 V6 V11 K cs g w):b5s (at_ Z d) T0 V4 V6 V11 K cs g w:=let ⟨T,h1,h2⟩:=h;⟨T,a8l h1,h2⟩
end
section
variable{w:World}{Sh:Nat->Prop}{Cb fb n:Nat}{fa:Option Addr}{fc:Nat}{Res:Nat->Nat->(Nat->Prop)->World->Prop}{V4 V11:Value}{K:List Item}{cs:List Frame}{T:Array Value}{Ψ:Goroutine->World->(Nat->Prop)->Prop}
theorem b9H{v0:Value}(hSh:∀b,Sh b->b<w.heap.size)(hCb:Cb<w.heap.size)(hShC:¬Sh Cb)(hfb:fb<w.heap.size)(hShf:¬Sh fb)(hne:fb≠Cb)
 (hres:∀i bx O w1 w2,w1.heap.size<=w2.heap.size->w2.heap[bx]?=w1.heap[bx]?->(∀b,O b->w2.heap[b]?=w1.heap[b]?)->(∀k,Mc.myCell i k->w2.cell? ⟨Cb,k,none⟩=w1.cell? ⟨Cb,k,none⟩)->Res i bx O w1->Res i bx O w2){c:Nat}(hc:0<c):S9 (at_ (mkZ w Sh Cb fb v0 n Res) c):=by
 refine⟨hc,?_,?_,?_,?_,?_,?_,?_,?_,?_,hres⟩
 ·show w.heap.size+1≠w.heap.size;omega
 ·show w.heap.size+1≠Cb;omega
 ·show w.heap.size≠Cb;omega
 ·show w.heap.size+1<w.heap.size+2;omega
 ·show w.heap.size<w.heap.size+2;omega
 ·show Cb<w.heap.size+2;omega
 ·rintro b ⟨h1,h2,h3⟩;exact⟨show b<w.heap.size+2 by omega,show b≠w.heap.size+1 by omega,show b≠w.heap.size by omega,h2,h3⟩
 ·intro b (h:Sh b);have:=hSh b h;exact⟨show b<w.heap.size+2 by omega,show b≠w.heap.size+1 by omega,show b≠w.heap.size by omega,fun e=>hShC (by have e':b=Cb:=e;exact e'▸h)⟩
 ·exact⟨hfb,hne,hShf⟩
theorem b36[To.Lo](hSh:∀b,Sh b->b<w.heap.size)(hfb:w.heap[fb]?=some (.cells #[.slice fa n fc] 128))(hShf:¬Sh fb)(hCb:∃cs0:Array Value,w.heap[Cb]?=some (.cells cs0 154)/\cs0.size=2*n)(hShC:¬Sh Cb)(hne:fb≠Cb)(hn:n<2147483648)
 (hres:∀i bx O w1 w2,w1.heap.size<=w2.heap.size->w2.heap[bx]?=w1.heap[bx]?->(∀b,O b->w2.heap[b]?=w1.heap[b]?)->(∀k,Mc.myCell i k->w2.cell? ⟨Cb,k,none⟩=w1.cell? ⟨Cb,k,none⟩)->Res i bx O w1->Res i bx O w2)
 (hT:T.size=118)(h4:T[4]?=some V4)(h6:T[6]?=some (.pointer (some ⟨fb,0,none⟩)))(h11:T[11]?=some V11)
 (hworks:∀c i b w',0<c->i<n->w.heap.size+2<=b->(∀e,e<w.heap.size->e≠Cb->¬Tr Sh e->w'.heap[e]?=w.heap[e]?)->w'.heap[b]?=some (.cells #[.int .i64 i] 3)->Y7 (mkZ w (Tr Sh) Cb fb (.slice fa n fc) n Res) w'->X4 (mkZ w (Tr Sh) Cb fb (.slice fa n fc) n Res) w'->
   WgLive 149 (w.heap.size+1) w'->Works (at_ (mkZ w (Tr Sh) Cb fb (.slice fa n fc) n Res) c) i b (born Tryz.prog (b5t (mkZ w (Tr Sh) Cb fb (.slice fa n fc) n Res) V4 (.pointer (some ⟨fb,0,none⟩)) V11 b)) w')
 (hnext:∀(w':World)(T':Array Value)(O:Nat->Nat->Prop)(bx:Nat->Nat),Lay (mkZ w (Tr Sh) Cb fb (.slice fa n fc) n Res) T V4 (.pointer (some ⟨fb,0,none⟩)) V11 T' n->(∀e,e<w.heap.size->e≠Cb->w'.heap[e]?=w.heap[e]?)->(∀i,i<n->Res i (bx i) (O i) w')->
   (∀i b,O i b->w.heap.size+2<=b/\b<w'.heap.size)->(∀i k b,O i b->O k b->i=k)->Y7 (mkZ w (Tr Sh) Cb fb (.slice fa n fc) n Res) w'->X4 (mkZ w (Tr Sh) Cb fb (.slice fa n fc) n Res) w'->w.heap.size+2<=w'.heap.size->w'.os=w.os->w'.output=w.output->
   ∃Sh':Nat->Prop,(∀b,Sh b->Sh' b)/\Sh' (w.heap.size+1)/\To Tryz.prog (G (joined T' K) cs) w' Sh' Ψ):
 To Tryz.prog (G ((base 14).at ⟨T,[]⟩ (.code (D8 6)::K)) cs) w Sh Ψ:=by
 have hfl:fb<w.heap.size:=Bi.lt_of_some hfb;obtain⟨cs0,hCb0,hcs0⟩:=hCb;have hShf':¬Tr Sh fb:=fun hs=>hShf hs.2;have hCl:Cb<w.heap.size:=Bi.lt_of_some hCb0;rw[c3z];refine ToB.move rfl (fun _=>stepG_seq) (ToB.move rfl (fun _=>stepG_region) ?_);refine b5w (i:=0) (rest:=[]) (o:=b9D) rfl rfl (by decide) (fun w=>(b9F _ w).2) fun τ p=>⟨_,tp (w.alloc (.cells #[.int .i64 0] 143)) τ p,(b9F _ _).1,ToB.to_tp ?_⟩;have eT:Act.put ⟨T,[]⟩ b9D.dst (.pointer (some ⟨(tp w τ p).heap.size,0,none⟩))=⟨T.setIfInBounds 12 (.pointer (some ⟨w.heap.size,0,none⟩)),[]⟩:=rfl;rw[eT];clear eT;have t12:(T.setIfInBounds 12 (.pointer (some ⟨w.heap.size,0,none⟩)))[12]?=some (.pointer (some ⟨w.heap.size,0,none⟩)):=P7 (by omega);have t4:=o7 (u:=.pointer (some ⟨w.heap.size,0,none⟩)) (j:=12) h4 (by decide);have t6:=o7 (u:=.pointer (some ⟨w.heap.size,0,none⟩)) (j:=12) h6 (by decide);have t11:=o7 (u:=.pointer (some ⟨w.heap.size,0,none⟩)) (j:=12) h11 (by decide);have hs1:(T.setIfInBounds 12 (.pointer (some ⟨w.heap.size,0,none⟩))).size=118:=by simp[hT]
 have kp:=a3s (T:=T) (T0:=T) (fun _ _=>rfl) 12 (by decide) (.pointer (some ⟨w.heap.size,0,none⟩));generalize T.setIfInBounds 12 (.pointer (some ⟨w.heap.size,0,none⟩))=T1 at t12 t4 t6 t11 hs1 kp⊢;have z1:=a3O w (.cells #[.int .i64 0] 143);have n1:=b31 w (.cells #[.int .i64 0] 143);have o1:=fun b=>a5S w (.cells #[.int .i64 0] 143) (b:=b);have os1:(w.alloc (.cells #[.int .i64 0] 143)).os=w.os:=rfl;have ou1:(w.alloc (.cells #[.int .i64 0] 143)).output=w.output:=rfl;generalize w.alloc (.cells #[.int .i64 0] 143)=w1 at z1 n1 o1 os1 ou1⊢;rw[c3A];refine ToB.move rfl (fun _=>stepG_region_end) (ToB.move rfl (fun _=>stepG_seq) (ToB.move rfl (fun _=>stepG_region) ?_));refine b5w (i:=0) (rest:=[]) (o:=b9E) rfl rfl (by decide) (fun w=>(b9G _ w).2) fun τ p=>⟨_,tp (w1.alloc (.cells #[.int .u64 0,.int .u32 0] 149)) τ p,(b9G _ _).1,ToB.to_tp ?_⟩;have eT:Act.put ⟨T1,[]⟩ b9E.dst (.pointer (some ⟨(tp w1 τ p).heap.size,0,none⟩))=⟨T1.setIfInBounds 13 (.pointer (some ⟨w1.heap.size,0,none⟩)),[]⟩:=rfl;rw[eT];clear eT;rw[z1];have t13:(T1.setIfInBounds 13 (.pointer (some ⟨w.heap.size+1,0,none⟩)))[13]?=some (.pointer (some ⟨w.heap.size+1,0,none⟩)):=P7 (by omega);replace t4:=o7 (u:=.pointer (some ⟨w.heap.size+1,0,none⟩)) (j:=13) t4 (by decide);replace t6:=o7 (u:=.pointer (some ⟨w.heap.size+1,0,none⟩)) (j:=13) t6 (by decide);replace t11:=o7 (u:=.pointer (some ⟨w.heap.size+1,0,none⟩)) (j:=13) t11 (by decide);replace t12:=o7 (u:=.pointer (some ⟨w.heap.size+1,0,none⟩)) (j:=13) t12 (by decide);replace hs1:(T1.setIfInBounds 13 (.pointer (some ⟨w.heap.size+1,0,none⟩))).size=118:=by simp[hs1]
 replace kp:=a3s kp 13 (by decide) (.pointer (some ⟨w.heap.size+1,0,none⟩));generalize T1.setIfInBounds 13 (.pointer (some ⟨w.heap.size+1,0,none⟩))=T2 at t13 t12 t4 t6 t11 hs1 kp⊢;have z2:=a3O w1 (.cells #[.int .u64 0,.int .u32 0] 149);have n2:=b31 w1 (.cells #[.int .u64 0,.int .u32 0] 149);have o2:=fun b=>a5S w1 (.cells #[.int .u64 0,.int .u32 0] 149) (b:=b);have os2:(w1.alloc (.cells #[.int .u64 0,.int .u32 0] 149)).os=w1.os:=rfl;have ou2:(w1.alloc (.cells #[.int .u64 0,.int .u32 0] 149)).output=w1.output:=rfl;generalize w1.alloc (.cells #[.int .u64 0,.int .u32 0] 149)=w2 at z2 n2 o2 os2 ou2⊢;rw[z1] at n2;have old:∀b,b<w.heap.size->w2.heap[b]?=w.heap[b]?:=fun b hb=>(o2 b (by omega)).trans (o1 b hb);have hAl:w2.heap[w.heap.size]?=some (.cells #[.int .i64 0] 143):=(o2 _ (by omega)).trans n1;have hsz:w2.heap.size=w.heap.size+2:=by omega
 have hos:w2.os=w.os:=os2.trans os1;have hou:w2.output=w.output:=ou2.trans ou1;clear os1 ou1 os2 ou2 z1 n1 o1 z2 o2 w1 T1;rw[c3B];refine ToB.move rfl (fun _=>stepG_region_end) (ToB.move rfl (fun _=>stepG_seq) ?_);have hZ:=fun c hc=>b9H (w:=w) (Sh:=Tr Sh) (Cb:=Cb) (fb:=fb) (n:=n) (Res:=Res) (v0:=.slice fa n fc) (fun b hb=>hSh b hb.2) hCl (fun hs=>hShC hs.2) hfl hShf' hne hres (c:=c) hc;have hwg:WgAt 149 (w.heap.size+1) w2 0 0:=n2;refine ToB.phase (Z:=mkZ w (Tr Sh) Cb fb (.slice fa n fc) n Res) (Sh:=Sh) (B:=w.heap.size) (Cont:=b5s (at_ (mkZ w (Tr Sh) Cb fb (.slice fa n fc) n Res) 1) T V4 (.pointer (some ⟨fb,0,none⟩)) V11 K cs)
  (AnchW:=fun g w'=>∃w00,a5c (at_ (mkZ w (Tr Sh) Cb fb (.slice fa n fc) n Res) 1) w00 T V4 (.pointer (some ⟨fb,0,none⟩)) V11 K cs g w') rfl hZ hn rfl (by show w.heap.size<=w.heap.size+2;omega) (by show w.heap.size<=w.heap.size+1;omega) (Nat.le_refl _)
  (by show w.heap.size+2<=_;omega) ⟨0,hAl⟩ ⟨cs0,(old _ hCl).trans hCb0,hcs0⟩ hwg (fun g w⟨_,h⟩=>b65 g w h) ?_ ?_ ?_
 ·rintro c hc x g w' ⟨w00,h⟩;exact Q9 (fun y g w=>b0m (fun g w=>b7b) fun g w h=>⟨w00,a5T h⟩) (b66 (hZ c hc) rfl rfl g w' (a5T h))
 ·intro c τ p hc;have hZc:=hZ c hc;have hKn:Kn (at_ (mkZ w (Tr Sh) Cb fb (.slice fa n fc) n Res) c) none (tp w2 τ p) (tp w2 τ p):=⟨Mc.R0.refl _ _ _,⟨0,0,hwg⟩⟩;have t70:(T2.setIfInBounds 70 (.slice fa n fc))[70]?=some (.slice fa n fc):=P7 (by omega);have hl:Lay (at_ (mkZ w (Tr Sh) Cb fb (.slice fa n fc) n Res) c) T V4 (.pointer (some ⟨fb,0,none⟩)) V11 (((T2.setIfInBounds 70 (.slice fa n fc)).setIfInBounds 71 (.int .i64 n)).setIfInBounds 72 (.int .i64 0)) 0:=by
   refine⟨by simp[hs1],?_,?_,?_,?_,?_,?_,?_,a3s (a3s (a3s kp 70 (by decide) _) 71 (by decide) _) 72 (by decide) _⟩
   ·exact o7 (o7 (o7 t4 (by decide)) (by decide)) (by decide)
   ·exact o7 (o7 (o7 t6 (by decide)) (by decide)) (by decide)
   ·exact o7 (o7 (o7 t11 (by decide)) (by decide)) (by decide)
   ·exact o7 (o7 (o7 t12 (by decide)) (by decide)) (by decide)
   ·exact o7 (o7 (o7 t13 (by decide)) (by decide)) (by decide)
   ·exact o7 (P7 (by simp[hs1])) (by decide)
   ·exact P7 (by simp[hs1])
  have hh:=b68 (K:=K) (cs:=cs) hZc rfl rfl hn (w00:=tp w2 τ p) (T0:=T) (V4:=V4) (V6:=.pointer (some ⟨fb,0,none⟩)) (V11:=V11) (by show w.heap.size+2<=w2.heap.size;omega)
   (fun i b w' hi hb hr hbx hal hcb hlv=>hworks c i b w' hc hi hb (fun e h1 h2 h3=>(hr.eld e ⟨h1,h2,h3⟩).trans (old e h1)) hbx hal hcb hlv) n 0 _ (tp w2 τ p) (Nat.zero_add n) hl hKn
  refine b2v (fun g w h=>⟨tp w2 τ p,a5T h⟩) _ _ _ _ (a6y (fun Stop hk=>?_) hh);clear hh;refine H6 rfl (fun _=>stepG_seq) (H6 rfl (fun _=>stepG_region) ?_);refine c0u (i:=0) (rest:=[1,2]) (o:=a4i[0]) rfl rfl (by decide) fun w₁ h₁=>?_;have hfw:w₁.heap[fb]?=some (.cells #[.slice fa n fc] 128):=(h₁.eld fb ⟨hfl,hne,hShf'⟩).trans ((old fb hfl).trans hfb);have hcell:w₁.cell? ⟨fb,0,none⟩=some (.slice fa n fc):=by simp[World.cell?,hfw]
  have hld:=b69 (A7 (ds:=[]) t6) hcell;refine⟨_,w₁,none,hld.1,⟨Nat.le_refl _,rfl,rfl,rfl,fun _ _ _=>rfl,.inl rfl,?_⟩,?_⟩
  ·rw[show listed (at_ (mkZ w (Tr Sh) Cb fb (.slice fa n fc) n Res) c).P (base 14).fn ⟨T2,[]⟩ a4i[0] w₁=#[⟨.cell ⟨fb,0,none⟩,false,false⟩] by show listed Tryz.prog (base 14).fn ⟨T2,[]⟩ a4i[0] w₁=_;unfold listed;rw[hld.2,seen_eq b9y (by simp)]];intro e he;rw[Array.mem_singleton] at he;subst he;exact⟨Bi.lt_of_some hfw,rfl,.inl ⟨⟨hfl,hne,hShf'⟩,rfl⟩⟩
  ·replace hk:=b5N hk h₁;refine a1G (i:=1) (rest:=[2]) (o:=a4i[1]) rfl rfl (by decide) (fun w=>(b5v (A7 (ds:=[]) t70) w).1) (fun w=>(b5v (A7 (ds:=[]) t70) w).2) ?_;refine a1G (i:=2) (rest:=[]) (o:=a4i[2]) (v:=.int .i64 0) rfl rfl (by decide) (fun w=>rfl) (fun w=>rfl) ?_;exact H6 rfl (fun _=>stepG_region_end) (H6 rfl (fun _=>stepG_block) (H6 rfl (fun _=>stepG_loop) hk))
 ·intro w' g' O bx ⟨T',hT',hm⟩ he hr hO hd hal hcb hL0 hos' hou';have hel:∀e,e<w.heap.size->e≠Cb->w'.heap[e]?=w.heap[e]?:=fun e h1 h2=>(he e ((Classical.em (Tr Sh e)).symm.imp (fun h3=>⟨h1,h2,h3⟩) id)).trans (old e h1);obtain⟨Sh',h1,h2,h3⟩:=hnext w' T' O bx (a8l (c:=1) (d:=0) hT') hel hr hO hd hal hcb hL0 (hos'.trans hos) (hou'.trans hou);exact⟨Sh',h1,h2,c2c hm h3⟩
end
end
end Go.Proofs.YtgpbhjjajpbeeaaGreatDoor
