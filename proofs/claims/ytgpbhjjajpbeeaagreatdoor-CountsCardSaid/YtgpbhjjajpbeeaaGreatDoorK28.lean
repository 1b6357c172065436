/- A part of what the last file proves. -/
import Derived.Test.YtgpbhjjajpbeeaaGreatDoorK27
set_option linter.all false
set_option maxRecDepth 100000
namespace Go.Proofs.YtgpbhjjajpbeeaaGreatDoor
section
open Go.RowKit Go.Conc Go.Conc.Lib Go.Mw Go.Mc Go.Bi
open Go.ConcN (WgLive Has AtR0)
open Pl
open Zn (ext low kk Gr K0 Nx Full tp WPs Zf)
open To (at_)
set_option linter.unusedSectionVars false
variable[Go.ConcR.Payload]
structure Ph(w:World)(Sh:Nat->Prop)(Cb fb rb n fc mb sx sb ic c1 c2:Nat)(ids:List Int)(bss:List (List UInt8))(DB:Nat->Prop):Prop where
 W:WPs zone Sh w
 gl:Tryz.prog.globals.size<=w.heap.size
 hn:n<2147483648/\n<=fc/\n<=c1/\(0<n->n<=c2)
 fbh:w.heap[fb]?=some (.cells #[.slice (some ⟨rb,0,none⟩) n fc] 128)
 DBfb:DB fb
 hDB:∀b,DB b->Tryz.prog.globals.size<=b/\b<w.heap.size/\b≠Cb/\¬Sh b/\∃c e fr,w.heap[b]?=some (.cells c e fr)/\∀v∈c,Plain DB v
 files:∀i,i<n->∃v,w.cell? ⟨rb,i,none⟩=some v/\Bytes w v (bss.getD i [])/\(bss.getD i []).length<=1099511627776
 hmb:mb<w.heap.size/\mb≠Cb/\¬Sh mb/\(0<n->w.cell? ⟨mb,1,none⟩=some (.slice (some ⟨ic,0,none⟩) n c2))
 hsx:sx<w.heap.size/\sx≠Cb/\¬Sh sx/\w.cell? ⟨sx,0,none⟩=some (.pointer (some ⟨sb,0,none⟩))
 hsb:sb<w.heap.size/\sb≠Cb/\¬Sh sb/\w.cell? ⟨sb,3,none⟩=some (.slice (some ⟨Cb,0,none⟩) n c1)
 hic:0<n->ic<w.heap.size/\ic≠Cb/\¬Sh ic/\∀i,i<n->w.cell? ⟨ic,i,none⟩=some (.int .i64 (ids.getD i 0))
 hcb:¬Sh Cb/\∃cs0:Array Value,w.heap[Cb]?=some (.cells cs0 154)/\cs0.size=2*n
def a4U(w:World)(Sh:Nat->Prop)(Cb:Nat)(ids:List Int)(bss:List (List UInt8))(i bx:Nat)(O:Nat->Prop)(w':World):Prop:=
 w'.cell? ⟨Cb,2*i,none⟩=some (.int .i64 (ids.getD i 0))/\
 (∃u,w'.cell? ⟨Cb,2*i+1,none⟩=some u/\a1L w' 160 7 u (A9 (bss.getD i [])).length ((A9 (bss.getD i [])).flatMap (I4 i))/\∀g,u.ownBlock=some g->O g)/\
 (∀b,O b->∃o,w'.heap[b]?=some o/\Zn.ObjP {zone with D:=fun b=>(b<w.heap.size/\b≠Cb/\¬Sh b)\/b=bx\/O b} o)/\w.heap.size+2<=bx/\w'.heap[bx]?=some (.cells #[.int .i64 i] 3)
theorem a95{w:World}{Sh:Nat->Prop}{Cb:Nat}{ids:List Int}{bss:List (List UInt8)}:∀i bx O(w1 w2:World),w1.heap.size<=w2.heap.size->w2.heap[bx]?=w1.heap[bx]?->(∀b,O b->w2.heap[b]?=w1.heap[b]?)->(∀k,myCell i k->w2.cell? ⟨Cb,k,none⟩=w1.cell? ⟨Cb,k,none⟩)->a4U w Sh Cb ids bss i bx O w1->a4U w Sh Cb ids bss i bx O w2:=by
 rintro i bx O w1 w2 _ h2 h3 h4 ⟨a1,⟨u,a2,a3,a4⟩,a5,a6,a7⟩;exact⟨(h4 _ (.inl rfl)).trans a1,⟨u,(h4 _ (.inr rfl)).trans a2,a3.keep fun g hg=>h3 g (a4 g hg),a4⟩,fun b hb=>let ⟨o,h5,h6⟩:=a5 b hb;⟨o,(h3 b hb).trans h5,h6⟩,a6,h2.trans a7⟩
abbrev c3r:Oper:={dst:=none,op:=.defer {callee:=.value (.func 60),args:=#[.tmp 0],argTypes:=#[149]},type:=0,pos:= "keydir.go:120",after:=#[],guard:=none}
theorem b6S:a1b 0=.seq (.region 0 #[c3r] false) (a1b 1):=by kernel_rfl
theorem b6T:a1b 1=.seq workR1 (a1b 2):=by kernel_rfl
theorem b6U{w:World}{Sh St:Nat->Prop}(hSt:∀b,St b->Sh b){Cb fb rb n fc mb sx sb ic c1 c2:Nat}{ids:List Int}{bss:List (List UInt8)}{DB:Nat->Prop}(h:Ph w Sh Cb fb rb n fc mb sx sb ic c1 c2 ids bss DB){c i b:Nat}{w':World}(hc:0<c)(hi:i<n)(hb:w.heap.size+2<=b)
 (hel0:∀e,e<w.heap.size->e≠Cb->¬St e->w'.heap[e]?=w.heap[e]?)(hbx:w'.heap[b]?=some (.cells #[.int .i64 i] 3))(hal:Y7 (mkZ w St Cb fb (.slice (some ⟨rb,0,none⟩) n fc) n (a4U w Sh Cb ids bss)) w')(hcb:X4 (mkZ w St Cb fb (.slice (some ⟨rb,0,none⟩) n fc) n (a4U w Sh Cb ids bss)) w')(hlv:WgLive 149 (w.heap.size+1) w'):
 Works (at_ (mkZ w St Cb fb (.slice (some ⟨rb,0,none⟩) n fc) n (a4U w Sh Cb ids bss)) c) i b (born Tryz.prog (b5t (mkZ w St Cb fb (.slice (some ⟨rb,0,none⟩) n fc) n (a4U w Sh Cb ids bss)) (.pointer (some ⟨mb,0,none⟩)) (.pointer (some ⟨fb,0,none⟩)) (.pointer (some ⟨sx,0,none⟩)) b)) w':=by
 obtain⟨hCS,cs0,hC0,hCs⟩:=h.hcb;have hCl:Cb<w.heap.size:=Bi.lt_of_some hC0;obtain⟨df1,df2,df3,df4,-⟩:=h.hDB fb h.DBfb;have hZ:S9 (at_ (mkZ w St Cb fb (.slice (some ⟨rb,0,none⟩) n fc) n (a4U w Sh Cb ids bss)) c):=b9H (fun b hb=>h.W.sh b (hSt b hb)) hCl (fun hs=>hCS (hSt _ hs)) df2 (fun hs=>df4 (hSt _ hs)) df3 a95 hc;have hL0:(at_ (mkZ w St Cb fb (.slice (some ⟨rb,0,none⟩) n fc) n (a4U w Sh Cb ids bss)) c).L0=w.heap.size+2:=rfl;have hEld:∀e,(e<w.heap.size/\e≠Cb/\¬Sh e)->(at_ (mkZ w St Cb fb (.slice (some ⟨rb,0,none⟩) n fc) n (a4U w Sh Cb ids bss)) c).Eld e:=fun e he=>⟨he.1,he.2.1,fun hs=>he.2.2 (hSt e hs)⟩;have hel:∀e,e<w.heap.size->e≠Cb->¬Sh e->w'.heap[e]?=w.heap[e]?:=fun e h1 h2 h3=>hel0 e h1 h2 fun hs=>h3 (hSt e hs);obtain⟨Z,hZe⟩:∃Z,Z=at_ (mkZ w St Cb fb (.slice (some ⟨rb,0,none⟩) n fc) n (a4U w Sh Cb ids bss)) c:=⟨_,rfl⟩;have zP:Z.P=Tryz.prog:=by rw[hZe];rfl
 have zt:Z.ty=149:=by rw[hZe];rfl
 have zC:(3:TypeId)≠Z.tCb:=by rw[hZe];show(3:Nat)≠154;decide
 have zn:Z.n=n:=by rw[hZe];rfl
 have zCb:Z.Cb=Cb:=by rw[hZe];rfl
 have zWg:Z.Wg=w.heap.size+1:=by rw[hZe];rfl
 have zAl:Z.Al=w.heap.size:=by rw[hZe];rfl
 have ze0:Z.e0=fb:=by rw[hZe];rfl
 have zv0:Z.v0=.slice (some ⟨rb,0,none⟩) n fc:=by rw[hZe];rfl
 have zR:Z.Res=a4U w Sh Cb ids bss:=by rw[hZe];rfl
 have ecall:b5t (mkZ w St Cb fb (.slice (some ⟨rb,0,none⟩) n fc) n (a4U w Sh Cb ids bss)) (.pointer (some ⟨mb,0,none⟩)) (.pointer (some ⟨fb,0,none⟩)) (.pointer (some ⟨sx,0,none⟩)) b =
  {target:=.fn (.func 59) #[.pointer (some ⟨w.heap.size+1,0,none⟩),.pointer (some ⟨b,0,none⟩),.pointer (some ⟨fb,0,none⟩),.pointer (some ⟨mb,0,none⟩),.pointer (some ⟨sx,0,none⟩),.pointer (some ⟨w.heap.size,0,none⟩)],args:=#[]}:=rfl
 rw[ecall];have zal:Y7 Z w':=by rw[hZe];exact hal
 have zcb:X4 Z w':=by rw[hZe];exact hcb
 rw[<-hZe] at hZ hL0 hEld⊢;clear hal hcb ecall;clear hZe;have hbl:b<w'.heap.size:=Bi.lt_of_some hbx;have hN0:Nw Z (fun _=>False) w':=fun _ h=>h.elim;unfold Works;refine a1j hN0 rfl (fun w=>by rw[zP];exact b6N _ w) ?_;have e29:(29:Nat) - (#[.pointer (some ⟨w.heap.size+1,0,none⟩),.pointer (some ⟨b,0,none⟩),.pointer (some ⟨fb,0,none⟩),.pointer (some ⟨mb,0,none⟩),.pointer (some ⟨sx,0,none⟩),.pointer (some ⟨w.heap.size,0,none⟩)]:Array Value).size=23:=rfl;rw[e29,b6S];have eT:(#[.pointer (some ⟨w.heap.size+1,0,none⟩),.pointer (some ⟨b,0,none⟩),.pointer (some ⟨fb,0,none⟩),.pointer (some ⟨mb,0,none⟩),.pointer (some ⟨sx,0,none⟩),.pointer (some ⟨w.heap.size,0,none⟩)]:Array Value)++Array.replicate 23 undef=#[.pointer (some ⟨w.heap.size+1,0,none⟩),.pointer (some ⟨b,0,none⟩),.pointer (some ⟨fb,0,none⟩),.pointer (some ⟨mb,0,none⟩),.pointer (some ⟨sx,0,none⟩),.pointer (some ⟨w.heap.size,0,none⟩),undef,undef,undef,undef,undef,undef,undef,undef,undef,undef,undef,undef,undef,undef,undef,undef,undef,undef,undef,undef,undef,undef,undef]:=by
  simp only[Array.replicate_succ,Array.replicate_zero,List.push_toArray,List.append_toArray,List.nil_append,List.cons_append]
 rw[eT];obtain⟨T2,hT2⟩:∃T2:Array Value,T2=#[.pointer (some ⟨w.heap.size+1,0,none⟩),.pointer (some ⟨b,0,none⟩),.pointer (some ⟨fb,0,none⟩),.pointer (some ⟨mb,0,none⟩),.pointer (some ⟨sx,0,none⟩),.pointer (some ⟨w.heap.size,0,none⟩),undef,undef,undef,undef,undef,undef,undef,undef,undef,undef,undef,undef,undef,undef,undef,undef,undef,undef,undef,undef,undef,undef,undef]:=⟨_,rfl⟩;rw[<-hT2];have t0:T2[0]?=some (.pointer (some ⟨w.heap.size+1,0,none⟩)):=by rw[hT2];rfl
 have ea:(#[.tmp 0]:Array Operand).map (Act.eval ⟨T2,[]⟩)=#[.pointer (some ⟨w.heap.size+1,0,none⟩)]:=by
  simp only[List.map_toArray,List.map_cons,List.map_nil];rw[A7 t0]
 refine a1j hN0 rfl (fun _=>stepG_seq) (a1j hN0 rfl (fun _=>stepG_region) ?_);refine a1j hN0 rfl (fun _=>stepG_defer (o:=c3r) rfl (by rfl) (by decide) rfl) (a1j hN0 rfl (fun _=>stepG_region_end) ?_);rw[show Act.put ⟨T2,dcall 60 ((#[.tmp 0]:Array Operand).map (Act.eval ⟨T2,[]⟩))::[]⟩ c3r.dst undef=⟨T2,[dcall 60 #[.pointer (some ⟨w.heap.size+1,0,none⟩)]]⟩ from by rw[ea];rfl];rw[b6T];refine a1j hN0 rfl (fun _=>stepG_seq) ?_;obtain⟨v,hv1,hv2,hv3⟩:=h.files i hi;have hfbc:w.cell? ⟨fb,0,none⟩=some (.slice (some ⟨rb,0,none⟩) n fc):=by simp[World.cell?,h.fbh]
 obtain⟨n1,n2,n3,n4⟩:=h.hn;have hn0:0<n:=by omega
 obtain⟨i1,i2,i3,i4⟩:=h.hic hn0;have key:=c1z (Stop:=At7 Z i b) hZ zP h.W (.pointer (some ⟨w.heap.size+1,0,none⟩)) (.pointer (some ⟨mb,0,none⟩)) (.pointer (some ⟨sx,0,none⟩)) (.pointer (some ⟨w.heap.size,0,none⟩)) [dcall 60 #[.pointer (some ⟨w.heap.size+1,0,none⟩)]]
  (DB:=DB) (fun e he=>by
   obtain⟨d1,d2,d3,d4,d5⟩:=h.hDB e he;exact⟨d1,d2,hEld e ⟨d2,d3,d4⟩,hel e d2 d3 d4,d5⟩) h.DBfb df4 hfbc ⟨hi,n2,n1⟩ hv1 hv2 hv3 hbx ⟨by omega,by omega⟩ (by omega) (by omega) h.gl ?_
 ·rw[<-hT2] at key;exact key
 ·intro O u V2 x7 x8 x9 x10 x11 x12 w3 hN hOb hK hrow hrb hobj;obtain⟨ua,uc,rfl⟩:=hrow.slice;have hh:∀e,e<w.heap.size->e≠Cb->¬Sh e->w3.heap[e]?=w.heap[e]?:=fun e a1 a2 a3=>(hK.eld e (hEld e ⟨a1,a2,a3⟩)).trans (hel e a1 a2 a3);have hcl:∀e k,e<w.heap.size->e≠Cb->¬Sh e->w3.cell? ⟨e,k,none⟩=w.cell? ⟨e,k,none⟩:=fun e k a1 a2 a3=>ConcN.cell_of_block (hh e a1 a2 a3) k;obtain⟨m1,m2,m3,m4⟩:=h.hmb;obtain⟨s1,s2,s3,s4⟩:=h.hsx;obtain⟨t1,t2,t3,t4⟩:=h.hsb;have hw:HW Z i b O w3 mb sx sb ic c1 c2 (ids.getD i 0) w3:=by
   refine⟨hN,Nat.le_refl _,fun _ _=>rfl,⟨hEld _ ⟨m1,m2,m3⟩,hEld _ ⟨s1,s2,s3⟩,hEld _ ⟨t1,t2,t3⟩,hEld _ ⟨i1,i2,i3⟩,by rw[ze0];exact hEld _ ⟨df2,df3,df4⟩⟩,by rw[zn];exact⟨hi,n3,n4 hn0,n1⟩,hK.box.trans hbx,(hcl _ _ s1 s2 s3).trans s4,?_,?_,(hcl _ _ i1 i2 i3).trans (i4 i hi),hK.cb zcb,hK.al zal,hK.live (by rw[zt,zWg];exact hlv),?_⟩
   ·rw[zCb,zn];exact(hcl _ _ t1 t2 t3).trans t4
   ·rw[zn];exact(hcl _ _ m1 m2 m3).trans (m4 hn0)
   ·rw[ze0,zv0];exact(hcl _ _ df2 df3 df4).trans hfbc
  have hrest:=b6R hZ zP zt zC (by rw[zAl];omega) w3 V2 x7 x8 x9 x10 x11 x12 mb sx sb ic c1 c2 (ids.getD i 0) ua _ uc (fun w4 hF=>by
   rw[zR];refine⟨?_,⟨_,?_,hrow.keep fun g hg=>hF.hw.own g (hrb g hg),hrb⟩,fun e he=>?_,hb,hF.hw.box⟩
   ·rw[<-zCb];exact hF.c0
   ·rw[<-zCb];exact hF.c1
   ·obtain⟨o,o1,o2⟩:=hobj e he;have hle:Zn.Le {zone with D:=fun b'=>DB b'\/b'=b\/O b'} {zone with D:=fun b'=>(b'<w.heap.size/\b'≠Cb/\¬Sh b')\/b'=b\/O b'}:=by
     refine⟨rfl,rfl,rfl,?_⟩;rintro q (hq|hq)
     ·obtain⟨_,d2,d3,d4,_⟩:=h.hDB q hq;exact .inl ⟨d2,d3,d4⟩
     ·exact .inr hq
    exact⟨o,(hF.hw.own e he).trans o1,o2.mono hle⟩) w3 hw
  rw[zWg,zAl] at hrest;exact hrest
end
section
open Go.RowKit Go.Lib Go.Maps Dk Pl
open Zn (tp)
theorem a1y(T:Array Value)(hT:T.size=118):T=#[T.getD 0 undef,T.getD 1 undef,T.getD 2 undef,T.getD 3 undef,T.getD 4 undef,T.getD 5 undef,T.getD 6 undef,T.getD 7 undef,T.getD 8 undef,T.getD 9 undef,T.getD 10 undef,T.getD 11 undef,T.getD 12 undef,T.getD 13 undef,T.getD 14 undef,T.getD 15 undef,T.getD 16 undef,T.getD 17 undef,T.getD 18 undef,T.getD 19 undef,T.getD 20 undef,T.getD 21 undef,T.getD 22 undef,T.getD 23 undef,T.getD 24 undef,T.getD 25 undef,T.getD 26 undef,T.getD 27 undef,T.getD 28 undef,T.getD 29 undef,T.getD 30 undef,T.getD 31 undef,T.getD 32 undef,T.getD 33 undef,T.getD 34 undef,T.getD 35 undef,T.getD 36 undef,T.getD 37 undef,T.getD 38 undef,T.getD 39 undef,T.getD 40 undef,T.getD 41 undef,T.getD 42 undef,T.getD 43 undef,T.getD 44 undef,T.getD 45 undef,T.getD 46 undef,T.getD 47 undef,T.getD 48 undef,T.getD 49 undef,T.getD 50 undef,T.getD 51 undef,T.getD 52 undef,T.getD 53 undef,T.getD 54 undef,T.getD 55 undef,T.getD 56 undef,T.getD 57 undef,T.getD 58 undef,T.getD 59 undef,T.getD 60 undef,T.getD 61 undef,T.getD 62 undef,T.getD 63 undef,T.getD 64 undef,T.getD 65 undef,T.getD 66 undef,T.getD 67 undef,T.getD 68 undef,T.getD 69 undef,T.getD 70 undef,T.getD 71 undef,T.getD 72 undef,T.getD 73 undef,T.getD 74 undef,T.getD 75 undef,T.getD 76 undef,T.getD 77 undef,T.getD 78 undef,T.getD 79 undef,T.getD 80 undef,T.getD 81 undef,T.getD 82 undef,T.getD 83 undef,T.getD 84 undef,T.getD 85 undef,T.getD 86 undef,T.getD 87 undef,T.getD 88 undef,T.getD 89 undef,T.getD 90 undef,T.getD 91 undef,T.getD 92 undef,T.getD 93 undef,T.getD 94 undef,T.getD 95 undef,T.getD 96 undef,T.getD 97 undef,T.getD 98 undef,T.getD 99 undef,T.getD 100 undef,T.getD 101 undef,T.getD 102 undef,T.getD 103 undef,T.getD 104 undef,T.getD 105 undef,T.getD 106 undef,T.getD 107 undef,T.getD 108 undef,T.getD 109 undef,T.getD 110 undef,T.getD 111 undef,T.getD 112 undef,T.getD 113 undef,T.getD 114 undef,T.getD 115 undef,T.getD 116 undef,T.getD 117 undef]:=by
 apply Array.ext
 ·exact hT
 intro j h1 h2;have hg:∀k(h:k<T.size),T[k]=T.getD k undef:=fun k h=>by simp[Array.getD,h]
 rw[hg];have h3:j<118:=by omega
 match j,h3 with
 | 0,_=>rfl
 | 1,_=>rfl
 | 2,_=>rfl
 | 3,_=>rfl
 | 4,_=>rfl
 | 5,_=>rfl
 | 6,_=>rfl
 | 7,_=>rfl
 | 8,_=>rfl
 | 9,_=>rfl
 | 10,_=>rfl
 | 11,_=>rfl
 | 12,_=>rfl
 | 13,_=>rfl
 | 14,_=>rfl
 | 15,_=>rfl
 | 16,_=>rfl
 | 17,_=>rfl
 | 18,_=>rfl
 | 19,_=>rfl
 | 20,_=>rfl
 | 21,_=>rfl
 | 22,_=>rfl
 | 23,_=>rfl
 | 24,_=>rfl
 | 25,_=>rfl
 | 26,_=>rfl
 | 27,_=>rfl
 | 28,_=>rfl
 | 29,_=>rfl
 | 30,_=>rfl
 | 31,_=>rfl
 | 32,_=>rfl
 | 33,_=>rfl
 | 34,_=>rfl
 | 35,_=>rfl
 | 36,_=>rfl
 | 37,_=>rfl
 | 38,_=>rfl
 | 39,_=>rfl
 | 40,_=>rfl
 | 41,_=>rfl
 | 42,_=>rfl
 | 43,_=>rfl
 | 44,_=>rfl
 | 45,_=>rfl
 | 46,_=>rfl
 | 47,_=>rfl
 | 48,_=>rfl
 | 49,_=>rfl
 | 50,_=>rfl
 | 51,_=>rfl
 | 52,_=>rfl
 | 53,_=>rfl
 | 54,_=>rfl
 | 55,_=>rfl
 | 56,_=>rfl
 | 57,_=>rfl
 | 58,_=>rfl
 | 59,_=>rfl
 | 60,_=>rfl
 | 61,_=>rfl
 | 62,_=>rfl
 | 63,_=>rfl
 | 64,_=>rfl
 | 65,_=>rfl
 | 66,_=>rfl
 | 67,_=>rfl
 | 68,_=>rfl
 | 69,_=>rfl
 | 70,_=>rfl
 | 71,_=>rfl
 | 72,_=>rfl
 | 73,_=>rfl
 | 74,_=>rfl
 | 75,_=>rfl
 | 76,_=>rfl
 | 77,_=>rfl
 | 78,_=>rfl
 | 79,_=>rfl
 | 80,_=>rfl
 | 81,_=>rfl
 | 82,_=>rfl
 | 83,_=>rfl
 | 84,_=>rfl
 | 85,_=>rfl
 | 86,_=>rfl
 | 87,_=>rfl
 | 88,_=>rfl
 | 89,_=>rfl
 | 90,_=>rfl
 | 91,_=>rfl
 | 92,_=>rfl
 | 93,_=>rfl
 | 94,_=>rfl
 | 95,_=>rfl
 | 96,_=>rfl
 | 97,_=>rfl
 | 98,_=>rfl
 | 99,_=>rfl
 | 100,_=>rfl
 | 101,_=>rfl
 | 102,_=>rfl
 | 103,_=>rfl
 | 104,_=>rfl
 | 105,_=>rfl
 | 106,_=>rfl
 | 107,_=>rfl
 | 108,_=>rfl
 | 109,_=>rfl
 | 110,_=>rfl
 | 111,_=>rfl
 | 112,_=>rfl
 | 113,_=>rfl
 | 114,_=>rfl
 | 115,_=>rfl
 | 116,_=>rfl
 | 117,_=>rfl
 | k+118,h=>exact absurd h (by omega)
structure Chh(F:Nat->Prop)(w w':World):Prop where
 os:w'.os=w.os
 output:w'.output=w.output
 size:w.heap.size<=w'.heap.size
 block:∀b,b<w.heap.size->¬F b->w'.heap[b]?=w.heap[b]?
theorem Chh.trans{F:Nat->Prop}{a b c:World}(h:Chh F a b)(k:Chh F b c):Chh F a c:=
 ⟨k.os.trans h.os,k.output.trans h.output,Nat.le_trans h.size k.size,fun x hx hF=>(k.block x (Nat.lt_of_lt_of_le hx h.size) hF).trans (h.block x hx hF)⟩
theorem Chh.of{F G:Nat->Prop}{w w':World}{τ τ':Nat->Question->Nat}{p p':Nat}(h:Chg F G (tp w τ p) (tp w' τ' p')):Chh F w w':=⟨h.os,h.output,h.size,h.block⟩
theorem Chh.ext{F:Nat->Prop}{w w':World}{τ τ':Nat->Question->Nat}{p p':Nat}(h:Ext (tp w τ p) (tp w' τ' p')):Chh F w w':=⟨h.os,h.output,h.size,fun b hb _=>h.block b hb⟩
theorem Chh.less{F G:Nat->Prop}{w w':World}(h:Chh G w w')(hG:∀b,b<w.heap.size->G b->F b):Chh F w w':=⟨h.os,h.output,h.size,fun b hb hF=>h.block b hb fun hg=>hF (hG b hb hg)⟩
theorem Held.chh{w w':World}{F:Nat->Prop}{Φ:World->Prop}(h:Held w F Φ)(c:Chh F w w')(hl:∀b,F b->b<w.heap.size):Held w' F Φ:=by
 obtain⟨S,h1,h2⟩:=h;exact⟨S,fun b hb=>⟨Nat.lt_of_lt_of_le (h1 b hb).1 c.size,(h1 b hb).2⟩,fun w'' hw=>h2 w'' fun b hb=>(hw b hb).trans (c.block b (h1 b hb).1 (h1 b hb).2)⟩
theorem o8.of_tp{w:World}{τ:Nat->Question->Nat}{p:Nat}{F:Nat->Prop}{a:Nat}{d:D}(h:o8 (tp w τ p) F a d):o8 w F a d:=h.frame (fun _ _=>rfl) (Nat.le_refl _)
theorem o8.to_tp{w:World}{τ:Nat->Question->Nat}{p:Nat}{F:Nat->Prop}{a:Nat}{d:D}(h:o8 w F a d):o8 (tp w τ p) F a d:=h.frame (fun _ _=>rfl) (Nat.le_refl _)
theorem b6y:D8 0=.seq (G7 0) (D8 1):=by kernel_rfl
theorem b6z:D8 1=.seq (G7 1) (D8 2):=by kernel_rfl
theorem b6A:D8 2=.seq (G7 2) (D8 3):=by kernel_rfl
theorem b6B:D8 3=.seq (G7 3) (D8 4):=by kernel_rfl
theorem b6C:D8 4=.seq (G7 4) (D8 5):=by kernel_rfl
theorem b6D:D8 5=.seq (G7 5) (D8 6):=by kernel_rfl
theorem b3F:D8 10=.seq (G7 10) (D8 11):=by kernel_rfl
theorem b3G:D8 11=.seq (G7 11) (D8 12):=by kernel_rfl
theorem b3H:D8 12=.seq (G7 12) (D8 13):=by kernel_rfl
noncomputable def N8:List Code:=[G7 0,G7 1,G7 2,G7 3,G7 4,G7 5,G7 10,G7 11,G7 12,D8 13]
theorem b3I:N8.all (Zn.cOK zb)=true:=by kernel_rfl
theorem a90{c:Code}(h:c∈N8):Zn.CodeP zone c:=Zn.cOK.sound (List.all_eq_true.1 b3I c h)
def fX(k:Tmp):Bool:=decide (k=11)||decide (k=12)||(decide (15<=k)&&decide (k<=18))||decide (79<=k)
theorem b6E:([G7 10,G7 11,G7 12,D8 13].all (Zn.useB fX))=true:=by kernel_rfl
theorem b9d{c:Code}(h:c∈[G7 10,G7 11,G7 12,D8 13]):Zn.CodeU (fun k=>fX k=true) c:=Zn.useB.sound (List.all_eq_true.1 b6E c h)
end
section
open Go.RowKit Go.Lib Go.Maps Dk Pl
open Zn (tp Full)
open To (wpT wpT_lone O1 Iv a6P)
set_option linter.unusedSectionVars false
def QO2(a mb:Nat)(w:World):Exit->Act->World->Prop
 | .normal,a',w'=>a'.defers=[]/\a'.tmps.size=118/\a'.tmps[0]?=some (l7 a)/\a'.tmps[4]?=some (.pointer (some ⟨mb,0,none⟩))/\w'=w
 | _,_,_=>False
theorem b3J(x:Nat->Value)(a mb:Nat)(w:World):(G7 2).wp Tryz.prog (QO2 a mb w) ⟨#[l7 a,x 1,x 2,x 3,.pointer (some ⟨mb,0,none⟩),.nilIface,x 6,x 7,x 8,x 9,x 10,x 11,x 12,x 13,x 14,x 15,x 16,x 17,x 18,x 19,x 20,x 21,x 22,x 23,x 24,x 25,x 26,x 27,x 28,x 29,x 30,x 31,x 32,x 33,x 34,x 35,x 36,x 37,x 38,x 39,x 40,x 41,x 42,x 43,x 44,x 45,x 46,x 47,x 48,x 49,x 50,x 51,x 52,x 53,x 54,x 55,x 56,x 57,x 58,x 59,x 60,x 61,x 62,x 63,x 64,x 65,x 66,x 67,x 68,x 69,x 70,x 71,x 72,x 73,x 74,x 75,x 76,x 77,x 78,x 79,x 80,x 81,x 82,x 83,x 84,x 85,x 86,x 87,x 88,x 89,x 90,x 91,x 92,x 93,x 94,x 95,x 96,x 97,x 98,x 99,x 100,x 101,x 102,x 103,x 104,x 105,x 106,x 107,x 108,x 109,x 110,x 111,x 112,x 113,x 114,x 115,x 116,x 117],[]⟩ w:=by
 unfold G7 D8;simp only[Code.behind,Code.head,Tryz.f14,Option.getD_some];go_wp2;exact⟨rfl,rfl,rfl,rfl,rfl⟩
def c3n(y:Value)(w:World):Exit->Act->World->Prop
 | .ret,a',w'=>a'.defers=[]/\a'.tmps[2]?=some (.pointer none)/\a'.tmps[3]?=some y/\w'=w
 | _,_,_=>False
theorem b2o(x:Nat->Value)(t:TypeId)(v:Value)(w:World):(G7 2).wp Tryz.prog (c3n (.iface t v) w) ⟨#[x 0,x 1,x 2,x 3,x 4,.iface t v,x 6,x 7,x 8,x 9,x 10,x 11,x 12,x 13,x 14,x 15,x 16,x 17,x 18,x 19,x 20,x 21,x 22,x 23,x 24,x 25,x 26,x 27,x 28,x 29,x 30,x 31,x 32,x 33,x 34,x 35,x 36,x 37,x 38,x 39,x 40,x 41,x 42,x 43,x 44,x 45,x 46,x 47,x 48,x 49,x 50,x 51,x 52,x 53,x 54,x 55,x 56,x 57,x 58,x 59,x 60,x 61,x 62,x 63,x 64,x 65,x 66,x 67,x 68,x 69,x 70,x 71,x 72,x 73,x 74,x 75,x 76,x 77,x 78,x 79,x 80,x 81,x 82,x 83,x 84,x 85,x 86,x 87,x 88,x 89,x 90,x 91,x 92,x 93,x 94,x 95,x 96,x 97,x 98,x 99,x 100,x 101,x 102,x 103,x 104,x 105,x 106,x 107,x 108,x 109,x 110,x 111,x 112,x 113,x 114,x 115,x 116,x 117],[]⟩ w:=by
 unfold G7 D8;simp only[Code.behind,Code.head,Tryz.f14,Option.getD_some];go_wp2;exact⟨rfl,rfl,rfl,rfl⟩
theorem b6F{w:World}{y:Value}{er:Er}(h:Y4 w y er)(he:er≠.ok):∃t v,y=.iface t v:=by
 cases er with
 | ok=>exact absurd rfl he
 | num n=>exact⟨_,_,h⟩
 | file n m=>
  obtain⟨b,rfl,_⟩:=h;exact⟨_,_,rfl⟩
def Dk.D.kopen(d:D):Option (Nat×List Int×List (List UInt8))×Er×D:=
 match d.readMan with
 | (none,er,d1)=>(none,er,d1)
 | (some (g,ids),_,d1)=>match D.opensAcc ids d1 [] with
  | (bss,.ok,d2)=>(some (g,ids,bss),.ok,d2)
  | (_,er,d2)=>(none,er,d2)
set_option linter.unusedSectionVars false
variable[To.Lo]{Sh:Nat->Prop}{X:Tmp->Prop}{fn:FuncId}{Q:Exit->Act->World->(Nat->Prop)->Prop}{a:Act}{w:World}
theorem piece{c:Code}(Q0:World->Exit->Act->World->Prop)(hI:Iv zone Sh X a w)(hc:Zn.CodeP zone c)(hu:Zn.CodeU X c)(h:∀τ p,c.wp Tryz.prog (Q0 (tp w τ p)) a (tp w τ p))
 (hQ:∀e a' w' τ p τ' p',Q0 (tp w τ p) e a' (tp w' τ' p')->(e=.normal\/e=.ret)/\(Iv zone Sh X a' w'->w.heap.size<=w'.heap.size->Q e a' w' Sh)):wpT Tryz.prog fn c Q a w Sh:=
 wpT_lone (Q0:=fun e a' w'=>∃τ p,Q0 (tp w τ p) e a' w') pqk hI hc hu (fun τ p=>Code.wp_mono (fun _ _ _ q=>⟨τ,p,q⟩) (h τ p)) fun e a' w' τ' p'⟨τ,p,q⟩=>hQ e a' w' τ p τ' p' q
theorem I8{T:Array Value}{k:Nat}{v:Value}(h:T[k]?=some v):T.getD k undef=v:=by
 rw[Array.getD_eq_getD_getElem?,h];rfl
section
theorem t0{a:Nat}(T:Array Value)(hs:T.size=118)(h0:T[0]?=some (l7 a))(w:World):(G7 0).wp Tryz.prog (QO0 a w) ⟨T,[]⟩ w:=by
 have e:=a1y T hs;rw[I8 h0] at e;exact(congrArg (fun T'=>Code.wp _ _ _ ⟨T',[]⟩ _) e).mpr (c1r (fun k=>T.getD k undef) a w)
theorem t1{a:Nat}(T:Array Value)(hs:T.size=118)(h0:T[0]?=some (l7 a))(h2:T[2]?=some (.pointer none))(h3:T[3]?=some (.nilIface))(F:Nat->Prop)(d:D)(w:World)(h:o8 w F a d)(hds:∀x∈d.ids,(d.node x).data.length<=35184372088832):(G7 1).wp Tryz.prog (QO1 F a d w) ⟨T,[]⟩ w:=by
 have e:=a1y T hs;rw[I8 h0] at e;rw[I8 h2] at e;rw[I8 h3] at e;exact(congrArg (fun T'=>Code.wp _ _ _ ⟨T',[]⟩ _) e).mpr (c1s (fun k=>T.getD k undef) F a d w h hds)
theorem t2{a mb:Nat}(T:Array Value)(hs:T.size=118)(h0:T[0]?=some (l7 a))(h4:T[4]?=some (.pointer (some ⟨mb,0,none⟩)))(h5:T[5]?=some (.nilIface))(w:World):(G7 2).wp Tryz.prog (QO2 a mb w) ⟨T,[]⟩ w:=by
 have e:=a1y T hs;rw[I8 h0] at e;rw[I8 h4] at e;rw[I8 h5] at e;exact(congrArg (fun T'=>Code.wp _ _ _ ⟨T',[]⟩ _) e).mpr (b3J (fun k=>T.getD k undef) a mb w)
theorem t2e{t:TypeId}{v:Value}(T:Array Value)(hs:T.size=118)(h5:T[5]?=some (.iface t v))(w:World):(G7 2).wp Tryz.prog (c3n (.iface t v) w) ⟨T,[]⟩ w:=by
 have e:=a1y T hs;rw[I8 h5] at e;exact(congrArg (fun T'=>Code.wp _ _ _ ⟨T',[]⟩ _) e).mpr (b2o (fun k=>T.getD k undef) t v w)
theorem t3{a mb:Nat}(T:Array Value)(hs:T.size=118)(h0:T[0]?=some (l7 a))(h4:T[4]?=some (.pointer (some ⟨mb,0,none⟩)))(g:Int)(v:Value)(ids:List Int)(w:World)(hb:j6 w mb 125 #[.int .u64 g,v])(hv:∃B,OwnI w B v ids)(hn:ids.length<=60):(G7 3).wp Tryz.prog (QO3 a mb ids.length w) ⟨T,[]⟩ w:=by
 have e:=a1y T hs;rw[I8 h0] at e;rw[I8 h4] at e;exact(congrArg (fun T'=>Code.wp _ _ _ ⟨T',[]⟩ _) e).mpr (c1t (fun k=>T.getD k undef) a mb g v ids w hb hv hn)
theorem t4{a mb fb rb:Nat}(T:Array Value)(hs:T.size=118)(h0:T[0]?=some (l7 a))(h4:T[4]?=some (.pointer (some ⟨mb,0,none⟩)))(h6:T[6]?=some (.pointer (some ⟨fb,0,none⟩)))(F:Nat->Prop)(g:Int)(ia:Option Addr)(ic:Nat)(d:D)(ids:List Int)(w:World)(h:o8 w F a d)(hds:∀x∈d.ids,(d.node x).data.length<=35184372088832)(hI:a6O ids)
 (hH:Held w (fun b=>F b\/b=rb) (fun W=>(j6 W mb 125 #[.int .u64 g,.slice ia ids.length ic]/\Ints W (.slice ia ids.length ic) ids)/\j6 W fb 128 #[.slice (some ⟨rb,0,none⟩) ids.length ids.length]/\a0G W))
 (hrb:w.heap[rb]?=some (.cells (List.replicate ids.length (Value.slice none 0 0)).toArray 25))(hrF:¬F rb):(G7 4).wp Tryz.prog (QO4 F a mb fb rb d ids w) ⟨T,[]⟩ w:=by
 have e:=a1y T hs;rw[I8 h0] at e;rw[I8 h4] at e;rw[I8 h6] at e;exact(congrArg (fun T'=>Code.wp _ _ _ ⟨T',[]⟩ _) e).mpr (c1u (fun k=>T.getD k undef) F a mb fb rb g ia ic d ids w h hds hI hH hrb hrF)
theorem t5{a mb fb:Nat}(T:Array Value)(hs:T.size=118)(h0:T[0]?=some (l7 a))(h4:T[4]?=some (.pointer (some ⟨mb,0,none⟩)))(h6:T[6]?=some (.pointer (some ⟨fb,0,none⟩)))(g:Int)(ia:Option Addr)(n ic:Nat)(w:World)(hb:j6 w mb 125 #[.int .u64 g,.slice ia n ic])(hn:n<=60):(G7 5).wp Tryz.prog (QO5 a mb fb n g (.slice ia n ic) w) ⟨T,[]⟩ w:=by
 have e:=a1y T hs;rw[I8 h0] at e;rw[I8 h4] at e;rw[I8 h6] at e;exact(congrArg (fun T'=>Code.wp _ _ _ ⟨T',[]⟩ _) e).mpr (c1v (fun k=>T.getD k undef) a mb fb g ia n ic w hb hn)
theorem t10{sx sb al:Nat}(T:Array Value)(hs:T.size=118)(h11:T[11]?=some (.pointer (some ⟨sx,0,none⟩)))(h12:T[12]?=some (.pointer (some ⟨al,0,none⟩)))(c0 c1 c2 c3 c4 c5:Value)(v:Int)(t:TypeId)(w:World)(hb0:j6 w sx 32 #[.pointer (some ⟨sb,0,none⟩)])(hb:j6 w sb 138 #[c0,c1,c2,c3,c4,c5])(ha:w.heap[al]?=some (.cells #[.int .i64 v] t)):(G7 10).wp Tryz.prog (QO6 sx sb c0 c1 c2 c3 c4 v al w) ⟨T,[]⟩ w:=by
 have e:=a1y T hs;rw[I8 h11] at e;rw[I8 h12] at e;exact(congrArg (fun T'=>Code.wp _ _ _ ⟨T',[]⟩ _) e).mpr (b89 (fun k=>T.getD k undef) sx sb al c0 c1 c2 c3 c4 c5 v t w hb0 hb ha)
theorem t11{sx sb:Nat}(T:Array Value)(hs:T.size=118)(h11:T[11]?=some (.pointer (some ⟨sx,0,none⟩)))(c0 c1 c2 c3 c4:Value)(v:Int)(w:World)(hb0:j6 w sx 32 #[.pointer (some ⟨sb,0,none⟩)])(hb:j6 w sb 138 #[c0,c1,c2,c3,c4,.int .i64 v]):(G7 11).wp Tryz.prog (QO7 sx sb c0 c1 c2 c3 v w) ⟨T,[]⟩ w:=by
 have e:=a1y T hs;rw[I8 h11] at e;exact(congrArg (fun T'=>Code.wp _ _ _ ⟨T',[]⟩ _) e).mpr (b9a (fun k=>T.getD k undef) sx sb c0 c1 c2 c3 c4 v w hb0 hb)
theorem t12{sx sb Cb r n n':Nat}(T:Array Value)(hs:T.size=118)(h11:T[11]?=some (.pointer (some ⟨sx,0,none⟩)))(c0 c1 c2 c5:Value)(ids:List Int)(bss:List (List UInt8))(w:World)(hb0:j6 w sx 32 #[.pointer (some ⟨sb,0,none⟩)])(hb:j6 w sb 138 #[c0,c1,c2,.slice (some ⟨Cb,0,none⟩) n n',.map (some r),c5])
 (hn:n<=n'/\n<=1000000)(hS:a0J w Cb n ids bss)(hM:Y6 w r [])(hrs:r≠sx/\r≠sb):(G7 12).wp Tryz.prog (QO8 sx r bss n w) ⟨T,[]⟩ w:=by
 have e:=a1y T hs;rw[I8 h11] at e;exact(congrArg (fun T'=>Code.wp _ _ _ ⟨T',[]⟩ _) e).mpr (b9b (fun k=>T.getD k undef) sx sb Cb r n n' c0 c1 c2 c5 ids bss w hb0 hb hn hS hM hrs)
theorem t13{sx sb:Nat}(T:Array Value)(hs:T.size=118)(h11:T[11]?=some (.pointer (some ⟨sx,0,none⟩)))(w:World)(hb0:j6 w sx 32 #[.pointer (some ⟨sb,0,none⟩)]):(D8 13).wp Tryz.prog (QO9 sb w) ⟨T,[]⟩ w:=by
 have e:=a1y T hs;rw[I8 h11] at e;exact(congrArg (fun T'=>Code.wp _ _ _ ⟨T',[]⟩ _) e).mpr (b9c (fun k=>T.getD k undef) sx sb w hb0)
end
end
section
open Go.RowKit Go.Lib Go.Maps Dk Pl
end
section
open Go.RowKit Go.Lib Go.Maps Dk Pl
theorem b2l{l:List UInt8}{g:Nat}{ids:List Int}(h:readMan l=some (g,ids)):a6O ids:=by
 unfold readMan at h;split at h
 ·rename_i hg;injection h with h;injection h with _ h;unfold a0B at hg;simp only[Bool.and_eq_true] at hg;have hi:=hg.2.2.2;rw[h] at hi;unfold U1 at hi;simp only[Bool.and_eq_true,decide_eq_true_eq,List.all_eq_true] at hi;refine⟨hi.1,fun x hx=>?_⟩;have:=hi.2.1 x hx;unfold U8 at this;simpa using this
 ·cases h
end
section
open Go.RowKit Go.Lib Go.Maps Dk Pl
open Zn (tp Full)
open To (wpT wpT_lone O1 Iv a6P)
set_option linter.unusedSectionVars false
section
variable{F G:Nat->Prop}{w w':World}
theorem Chh.eq{τ τ':Nat->Question->Nat}{p p':Nat}(h:tp w' τ' p'=tp w τ p):Chh F w w':=by
 have h1:(tp w' τ' p').heap=(tp w τ p).heap:=congrArg World.heap h;have h2:(tp w' τ' p').os=(tp w τ p).os:=congrArg World.os h;have h3:(tp w' τ' p').output=(tp w τ p).output:=congrArg World.output h;replace h1:w'.heap=w.heap:=h1;exact⟨h2,h3,by rw[h1];exact Nat.le_refl _,fun b _ _=>by rw[h1]⟩
theorem Chh.box{n:Nat}{t:TypeId}{cs:Array Value}(c:Chh F w w')(h:j6 w n t cs)(hn:¬F n):j6 w' n t cs:=(c.block n h.lt hn).trans h
theorem Chh.disk{a:Nat}{d:D}(c:Chh G w w')(h:o8 w F a d)(hG:∀b,F b->¬G b):o8 w' F a d:=h.frame (fun b hb=>c.block b (h.low b hb) (hG b hb)) c.size
theorem Chh.row{B:Nat}{e:TypeId}{size:Nat}{v:Value}{n:Nat}{xs:List Value}(c:Chh F w w')(h:w.ownsRow B e size v n xs)(hn:∀b,v.ownBlock=some b->¬F b):w'.ownsRow B e size v n xs:=Dep.row h _ fun b hb=>c.block b (World.ownsRow.lt h b hb).2 (hn b hb)
end
structure Hd(F:Nat->Prop)(a:Nat)(d:D)(w:World)(T:Array Value)(w':World)(gen:Nat)(ids:List Int)(bss:List (List UInt8))(mb fb rb sx sb Cb:Nat)(ia:Option Addr)(ic:Nat)(vs:List Value)(d2:D):Prop where
 ko:d.kopen=(some (gen,ids,bss),.ok,d2)
 idsIn:a6O ids
 hs:T.size=118
 t4:T[4]?=some (.pointer (some ⟨mb,0,none⟩))
 t6:T[6]?=some (.pointer (some ⟨fb,0,none⟩))
 t11:T[11]?=some (.pointer (some ⟨sx,0,none⟩))
 disk:o8 w' F a d2
 chh:Chh F w w'
 hmb:j6 w' mb 125 #[.int .u64 gen,.slice ia ids.length ic]
 hids:OwnI w' w.heap.size (.slice ia ids.length ic) ids
 hfb:j6 w' fb 128 #[.slice (some ⟨rb,0,none⟩) ids.length ids.length]
 hrow:a7j w w' rb ids.length vs bss
 hbss:bss.length=ids.length
 hsx:j6 w' sx 32 #[.pointer (some ⟨sb,0,none⟩)]
 hsb:j6 w' sb 138 #[l7 a,.int .u64 gen,.slice ia ids.length ic,.slice (some ⟨Cb,0,none⟩) ids.length ids.length,.map none,.int .i64 0]
 hcb:w'.heap[Cb]?=some (.cells (madeCells #[.int .i64 0,.slice none 0 0] (ids.length*2)) 154)
 new:w.heap.size<=mb/\w.heap.size<=fb/\w.heap.size<=rb/\w.heap.size<=sx/\w.heap.size<=sb/\w.heap.size<=Cb
structure c4t(F:Nat->Prop)(a:Nat)(d:D)(w:World)(a':Act)(w':World)(y:Value):Prop where
 defers:a'.defers=[]
 t2:a'.tmps[2]?=some (.pointer none)
 t3:a'.tmps[3]?=some y
 ko:d.kopen.1=none/\d.kopen.2.1≠.ok
 disk:o8 w' F a d.kopen.2.2
 chh:Chh F w w'
 err:Held w' F (fun W=>Y4 W y d.kopen.2.1)
set_option linter.unusedSectionVars false
variable[To.Lo]{Sh:Nat->Prop}{fn:FuncId}{Q:Exit->Act->World->(Nat->Prop)->Prop}{w:World}
theorem b3K{d:D}{gen:Nat}{ids:List Int}(h:d.readMan.1=some (gen,ids)):a6O ids:=by
 unfold D.readMan at h;obtain⟨⟨b,er,d1⟩,hr⟩:∃r,d.whole F5=r:=⟨_,rfl⟩;rw[hr] at h
 cases er with
 | ok=>
  dsimp only at h
  cases hm:Go.Proofs.YtgpbhjjajpbeeaaGreatDoor.readMan b with
  | none=>rw[hm] at h;cases h
  | some r=>
   rw[hm] at h;obtain⟨g,l⟩:=r;injection h with h;injection h with h1 h2;subst h1 h2
   exact b2l hm
 | num n=>cases h
 | file n m=>cases h
omit[To.Lo] in
theorem a0K{d:D}(h:d.readMan.1=none):d.kopen=(none,d.readMan.2.1,d.readMan.2.2):=by
 unfold D.kopen;obtain⟨⟨o,er,d1⟩,hr⟩:∃r,d.readMan=r:=⟨_,rfl⟩;rw[hr] at h⊢;dsimp only at h;subst h;rfl
omit[To.Lo] in
theorem a1n{d:D}{gen:Nat}{ids:List Int}(h:d.readMan.1=some (gen,ids))(he:(D.opensAcc ids d.readMan.2.2 []).2.1≠.ok):d.kopen=(none,(D.opensAcc ids d.readMan.2.2 []).2.1,(D.opensAcc ids d.readMan.2.2 []).2.2):=by
 unfold D.kopen;obtain⟨⟨o,er,d1⟩,hr⟩:∃r,d.readMan=r:=⟨_,rfl⟩;rw[hr] at h he⊢;dsimp only at h he⊢;subst h;dsimp only;obtain⟨⟨bss,e2,d2⟩,hr2⟩:∃r,D.opensAcc ids d1 []=r:=⟨_,rfl⟩;rw[hr2] at he⊢;dsimp only at he⊢
 cases e2 with
 | ok=>exact absurd rfl he
 | num n=>rfl
 | file n m=>rfl
omit[To.Lo] in
theorem a8c{d:D}{gen:Nat}{ids:List Int}(h:d.readMan.1=some (gen,ids))(he:(D.opensAcc ids d.readMan.2.2 []).2.1=.ok):d.kopen=(some (gen,ids,(D.opensAcc ids d.readMan.2.2 []).1),.ok,(D.opensAcc ids d.readMan.2.2 []).2.2):=by
 unfold D.kopen;obtain⟨⟨o,er,d1⟩,hr⟩:∃r,d.readMan=r:=⟨_,rfl⟩;rw[hr] at h he⊢;dsimp only at h he⊢;subst h;dsimp only;obtain⟨⟨bss,e2,d2⟩,hr2⟩:∃r,D.opensAcc ids d1 []=r:=⟨_,rfl⟩;rw[hr2] at he⊢;dsimp only at he⊢;subst he;rfl
theorem b6G{F:Nat->Prop}{a:Nat}{d:D}{T0:Array Value}(hI:Iv zone Sh Full ⟨T0,[]⟩ w)(hs:T0.size=118)(h0:T0[0]?=some (l7 a))(hD:o8 w F a d)(hds:∀x∈d.ids,(d.node x).data.length<=35184372088832)(hl:Held w F a0G)
 (herr:∀a' w' y,c4t F a d w a' w' y->Iv zone Sh Full a' w'->Q .ret a' w' Sh)
 (hok:∀T w' gen ids bss mb fb rb sx sb Cb ia ic vs d2,Hd F a d w T w' gen ids bss mb fb rb sx sb Cb ia ic vs d2->Iv zone Sh Full ⟨T,[]⟩ w'->wpT Tryz.prog fn (D8 6) Q ⟨T,[]⟩ w' Sh):wpT Tryz.prog fn (D8 0) Q ⟨T0,[]⟩ w Sh:=by
 have mem:∀{c:Code},c∈N8->Zn.CodeP zone c:=a90;rw[b6y];refine O1 (piece (fun w=>QO0 a w) hI (mem (by simp[N8])) (Zn.codeU_full _) (fun τ p=>t0 T0 hs h0 _) ?_);rintro e ⟨T1,ds1⟩ w1 τ p τ' p' q;cases e<;>first|exact q.elim|skip
 obtain⟨q1,q2,q3,q4,q5,q6⟩:=q;dsimp only at q1 q2 q3 q4 q5;subst q1;refine⟨.inl rfl,fun hI1 _=>?_⟩;have c1:Chh (fun _=>False) w w1:=.eq q6;have hD1:=c1.disk hD fun _ _ h=>h;clear q6;show wpT _ _ _ _ _ _ _;rw[b6z];refine O1 (piece (fun w=>QO1 F a d w) hI1 (mem (by simp[N8])) (Zn.codeU_full _) (fun τ p=>t1 T1 q2 q3 q4 q5 F d _ hD1.to_tp hds) ?_);rintro e ⟨T2,ds2⟩ w2 τ p τ' p' q;cases e<;>first|exact q.elim|skip
 obtain⟨r1,r2,r3,r4,r5,mb,g,v,y,r6,r7,r8,r9,r10,r11,r12⟩:=q;dsimp only at r1 r2 r3 r4 r5 r6 r7;subst r1;refine⟨.inl rfl,fun hI2 _=>?_⟩;have hD2:o8 w2 F a d.readMan.2.2:=r10.of_tp;have c2:Chh F w w2:=(c1.less (fun _ _ h=>h.elim)).trans (.of r11);have hmb:j6 w2 mb 125 #[.int .u64 g,v]:=r9;have hmbn:w.heap.size<=mb:=Nat.le_trans c1.size r8;show wpT _ _ _ _ _ _ _;rw[b6A];rcases r12 with⟨e1,e2,e3⟩|⟨gen,ids,e1,e2,rfl,rfl,e5⟩
 ·have hE:Held w2 F (fun W=>Y4 W y d.readMan.2.1):=e3;obtain⟨t,v',rfl⟩:=b6F hE.get e2;refine O1 (piece (fun w=>c3n (.iface t v') w) hI2 (mem (by simp[N8])) (Zn.codeU_full _) (fun τ p=>t2e T2 r2 r7 _) ?_);rintro e a3 w3 τ p τ' p' q;cases e<;>first|exact q.elim|skip
  obtain⟨s1,s2,s3,s4⟩:=q;refine⟨.inr rfl,fun hI3 _=>herr a3 w3 _ ⟨s1,s2,s3,?_,?_,?_,?_⟩ hI3⟩
  ·rw[a0K e1];exact⟨rfl,e2⟩
  ·rw[a0K e1];exact(Chh.eq s4:Chh (fun _=>False) w2 w3).disk hD2 fun _ _ h=>h
  ·exact c2.trans (.eq s4)
  ·rw[a0K e1];exact hE.chh (.eq s4) hD2.low
 ·have hin:=b3K e1;have hvo:OwnI w2 w.heap.size v ids:=I6 e5 c1.size;refine O1 (piece (fun w=>QO2 a mb w) hI2 (mem (by simp[N8])) (Zn.codeU_full _) (fun τ p=>t2 T2 r2 r3 r6 r7 _) ?_);rintro e ⟨T3,ds3⟩ w3 τ p τ' p' q;cases e<;>first|exact q.elim|skip
  obtain⟨s1,s2,s3,s4,s5⟩:=q;dsimp only at s1 s2 s3 s4;subst s1;refine⟨.inl rfl,fun hI3 _=>?_⟩;have c3':Chh (fun _=>False) w2 w3:=.eq s5;have c3:Chh F w w3:=c2.trans (.eq s5);have hD3:=c3'.disk hD2 fun _ _ h=>h;have hmb3:=c3'.box hmb fun h=>h;have hvo3:OwnI w3 w.heap.size v ids:=c3'.row hvo fun _ _ h=>h;clear s5 hD2 hmb hvo;show wpT _ _ _ _ _ _ _;rw[b6B];refine O1 (piece (fun w=>QO3 a mb ids.length w) hI3 (mem (by simp[N8])) (Zn.codeU_full _) (fun τ p=>t3 T3 s2 s3 s4 gen v ids _ hmb3 ⟨_,hvo3⟩ hin.1) ?_);rintro e ⟨T4,ds4⟩ w4 τ p τ' p' q;cases e<;>first|exact q.elim|skip
  obtain⟨u1,u2,u3,u4,u5,fb,rb,u6,u7,u8,u9,u10⟩:=q;dsimp only at u1 u2 u3 u4 u6;subst u1;refine⟨.inl rfl,fun hI4 _=>?_⟩;have c4':Chh (fun _=>False) w3 w4:=.ext u5;have c4:Chh F w w4:=c3.trans (.ext u5);have hD4:=c4'.disk hD3 fun _ _ h=>h;have hmb4:=c4'.box hmb3 fun h=>h;have hvo4:OwnI w4 w.heap.size v ids:=c4'.row hvo3 fun _ _ h=>h;have hfb4:j6 w4 fb 128 #[.slice (some ⟨rb,0,none⟩) ids.length ids.length]:=u9;have hrb4:w4.heap[rb]?=some (.cells (List.replicate ids.length (Value.slice none 0 0)).toArray 25):=u10;have u7':w3.heap.size<=fb:=u7;have u8':w3.heap.size<=rb:=u8;have hlow:=hD.low;have hmbl:mb<w3.heap.size:=hmb3.lt;have hrF:¬F rb:=fun h=>by have:=hlow rb h;have:=c3.size;omega
  have hne:fb≠rb:=by
   rintro rfl;unfold j6 at hfb4;rw[hrb4] at hfb4;injection hfb4 with h;injection h with h1 h2 h3;revert h2;decide
  obtain⟨ia,ic,rfl⟩:=ownsRow_form hvo4;have hvl:∀b,(Value.slice ia ids.length ic).ownBlock=some b->w.heap.size<=b/\b<w3.heap.size:=fun b hb=>World.ownsRow.lt hvo3 b hb;have hH4:Held w4 (fun b=>F b\/b=rb) (fun W=>(j6 W mb 125 #[.int .u64 gen,.slice ia ids.length ic]/\Ints W (.slice ia ids.length ic) ids)/\j6 W fb 128 #[.slice (some ⟨rb,0,none⟩) ids.length ids.length]/\a0G W):=by
   refine Held.and (Held.and (Held.box hmb4 ?_) ?_) (Held.and (Held.box hfb4 ?_) ?_)
   ·rintro(h|h)
    ·have:=hlow mb h;omega
    ·omega
   ·refine(Held.of (Dep.row hvo4) fun b hb=>⟨(World.ownsRow.lt hvo4 b hb).2,?_⟩).mono fun W hW=>OwnI.ints hW;have:=hvl b hb;rintro(h|h)
    ·have:=hlow b h;omega
    ·omega
   ·rintro(h|h)
    ·have:=hlow fb h;have:=c3.size;omega
    ·exact hne h
   ·obtain⟨S,h1,h2⟩:=hl;refine⟨S,fun b hb=>⟨Nat.lt_of_lt_of_le (h1 b hb).1 c4.size,?_⟩,fun w'' hw=>h2 w'' fun b hb=>(hw b hb).trans (c4.block b (h1 b hb).1 (h1 b hb).2)⟩;rintro(h|h)
    ·exact(h1 b hb).2 h
    ·have:=(h1 b hb).1;have:=c3.size;omega
  have hsm:=D.readMan_same d;have hds4:∀x∈d.readMan.2.2.ids,(d.readMan.2.2.node x).data.length<=35184372088832:=fun x hx=>by rw[hsm.node];rw[hsm.ids] at hx;exact hds x hx
  clear u5 u7 u8 u9 u10 hmb3 hvo3 hD3;show wpT _ _ _ _ _ _ _;rw[b6C];refine O1 (piece (fun w=>QO4 F a mb fb rb d.readMan.2.2 ids w) hI4 (mem (by simp[N8])) (Zn.codeU_full _) (fun τ p=>t4 T4 u2 u3 u4 u6 F gen ia ic d.readMan.2.2 ids _ hD4.to_tp hds4 hin hH4 hrb4 hrF) ?_);rintro e ⟨T5,ds5⟩ w5 τ p τ' p' q;have hF':∀b,b<w.heap.size->(F b\/b=rb)->F b:=fun b hb h=>h.elim id fun h=>by have:=c3.size;omega
  have c45:∀{τ τ' p p'},Chg (fun b=>F b\/b=rb) (fun b=>F b\/b=rb) (tp w4 τ p) (tp w5 τ' p')->Chh F w w5:=fun h=>by
   have h1:Chh (fun b=>F b\/b=rb) w4 w5:=.of h;exact⟨h1.os.trans c4.os,h1.output.trans c4.output,Nat.le_trans c4.size h1.size,fun b hb hF=>(h1.block b (Nat.lt_of_lt_of_le hb c4.size) fun h=>hF (hF' b hb h)).trans (c4.block b hb hF)⟩
  cases e<;>first|exact q.elim|skip
  ·obtain⟨v1,v2,v3,v4,v5,v6,v7,v8,vs,v9,v10⟩:=q;dsimp only at v1 v2 v3 v4 v5;subst v1;have hD5:o8 w5 F a (D.opensAcc ids d.readMan.2.2 []).2.2:=v7.of_tp;have c5:Chh F w w5:=c45 v8;have c45':Chh (fun b=>F b\/b=rb) w4 w5:=.of v8;have hn1:∀b,w.heap.size<=b->¬F b:=fun b hb h=>by have:=hlow b h;omega
   have hmb5:=c45'.box hmb4 fun h=>h.elim (hn1 mb hmbn) fun h=>by omega
   have hfb5:=c45'.box hfb4 fun h=>h.elim (hn1 fb (Nat.le_trans c3.size u7')) hne;have hvo5:OwnI w5 w.heap.size (.slice ia ids.length ic) ids:=c45'.row hvo4 fun b hb=>by
    have:=hvl b hb;exact fun h=>h.elim (hn1 b this.1) fun h=>by omega
   have hrow5:a7j w4 w5 rb ids.length vs (D.opensAcc ids d.readMan.2.2 []).1:=⟨v9.len,v9.le,v9.row,v9.at_⟩;have hsz45:w4.heap.size<=w5.heap.size:=c45'.size;clear v8 v9 v7;refine⟨.inl rfl,fun hI5 _=>?_⟩;show wpT _ _ _ _ _ _ _;rw[b6D];refine O1 (piece (fun w=>QO5 a mb fb ids.length gen (.slice ia ids.length ic) w) hI5 (mem (by simp[N8])) (Zn.codeU_full _) (fun τ p=>t5 T5 v2 v3 v4 v5 gen ia ids.length ic _ hmb5 hin.1) ?_);rintro e ⟨T6,ds6⟩ w6 τ p τ' p' q;cases e<;>first|exact q.elim|skip
   obtain⟨x1,x2,x3,x4,x5,sx,sb,Cb,x6,x7,x8,x9,-,-,-,x10,x11,x12⟩:=q;dsimp only at x1 x2 x3 x4 x6;subst x1;replace x7:w5.heap.size<=sx:=x7;replace x8:w5.heap.size<=sb:=x8;replace x9:w5.heap.size<=Cb:=x9;have c56:Chh (fun _=>False) w5 w6:=.ext x5;refine⟨.inl rfl,fun hI6 _=>hok T6 w6 gen ids (D.opensAcc ids d.readMan.2.2 []).1 mb fb rb sx sb Cb ia ic vs (D.opensAcc ids d.readMan.2.2 []).2.2 ?_ hI6⟩;exact{
    ko:=a8c e1 v6
    idsIn:=hin
    hs:=x2
    t4:=x3
    t6:=x4
    t11:=x6
    disk:=c56.disk hD5 fun _ _ h=>h
    chh:=c5.trans (.ext x5)
    hmb:=c56.box hmb5 fun h=>h
    hids:=c56.row hvo5 fun _ _ h=>h
    hfb:=c56.box hfb5 fun h=>h
    hrow:=by
     have k:a7j w w5 rb ids.length vs (D.opensAcc ids d.readMan.2.2 []).1:=⟨hrow5.len,hrow5.le,hrow5.row,fun j u b hu hb=>⟨I6 (hrow5.at_ j u b hu hb).1 c4.size,(hrow5.at_ j u b hu hb).2⟩⟩;exact k.keep (c56.block rb (lt_of_block hrow5.row) fun h=>h) fun b _ hb _=>c56.block b hb fun h=>h
    hbss:=v10
    hsx:=x10
    hsb:=x11
    hcb:=x12
    new:=by have:=c3.size;have:=c5.size;exact⟨hmbn,by omega,by omega,by omega,by omega,by omega⟩}
  ·obtain⟨v1,y,v2,v3,v4,v5,v6,v7⟩:=q;refine⟨.inr rfl,fun hI5 _=>herr ⟨T5,ds5⟩ w5 y ⟨v1,v2,v3,?_,?_,c45 v6,?_⟩ hI5⟩
   ·rw[a1n e1 v4];exact⟨rfl,v4⟩
   ·rw[a1n e1 v4];exact v5.of_tp
   ·rw[a1n e1 v4];exact v7
end
section
open Dk Pl
def K8(l:Fl):List Int->List (List UInt8)->Option (List (List UInt8))×Nm
 | [],acc=>(some acc,[])
 | id::ids,acc=>match q9 l (C8 H5 id.toNat) with
  | none=>(none,C8 H5 id.toNat)
  | some b=>K8 l ids (acc++[b])
theorem a5q{l:Fl}{id:Int}{ids:List Int}{acc:List (List UInt8)}{b:List UInt8}(h:q9 l (C8 H5 id.toNat)=some b):K8 l (id::ids) acc=K8 l ids (acc++[b]):=by
 show(match q9 l (C8 H5 id.toNat) with|none=>(none,C8 H5 id.toNat)|some b=>K8 l ids (acc++[b]))=_;rw[h]
theorem a5r{l:Fl}{id:Int}{ids:List Int}{acc:List (List UInt8)}(h:q9 l (C8 H5 id.toNat)=none):K8 l (id::ids) acc=(none,C8 H5 id.toNat):=by
 show(match q9 l (C8 H5 id.toNat) with|none=>(none,C8 H5 id.toNat)|some b=>K8 l ids (acc++[b]))=_;rw[h]
def J6(l:Fl):Option (Nat×List Int×List (List UInt8))×Int×Nm:=
 match q9 l F5 with
 | none=>(none,5,[])
 | some m=>match readMan m with
  | none=>(none,6,[])
  | some (g,ids)=>match K8 l ids [] with
   | (some bss,_)=>(some (g,ids,bss),0,[])
   | (none,n)=>(none,7,n)
section
variable{l:Fl}{m:List UInt8}{g:Nat}{ids:List Int}{bss:List (List UInt8)}{n:Nm}
theorem a2M(h:q9 l F5=none):J6 l=(none,5,[]):=by unfold J6;rw[h]
theorem a3F(h:q9 l F5=some m)(hm:readMan m=none):J6 l=(none,6,[]):=by unfold J6;rw[h];dsimp only;rw[hm]
theorem a4G(h:q9 l F5=some m)(hm:readMan m=some (g,ids))(hs:K8 l ids []=(some bss,n)):J6 l=(some (g,ids,bss),0,[]):=by unfold J6;rw[h];dsimp only;rw[hm];dsimp only;rw[hs]
theorem a2N(h:q9 l F5=some m)(hm:readMan m=some (g,ids))(hs:K8 l ids []=(none,n)):J6 l=(none,7,n):=by unfold J6;rw[h];dsimp only;rw[hm];dsimp only;rw[hs]
end
theorem b1u(l:Fl)(h:(J6 l).1≠none):(J6 l).2.2=[]:=by
 cases hm:q9 l F5 with
 | none=>rw[a2M hm]
 | some m=>
  cases hr:readMan m with
  | none=>rw[a3F hm hr]
  | some r=>
   obtain⟨g,ids⟩:=r
   cases hs:K8 l ids [] with
   | mk o n=>
    cases o with
    | some bss=>rw[a4G hm hr hs]
    | none=>rw[a2N hm hr hs] at h;exact absurd rfl h
theorem a9p{d:D}(h:d.Calm):∀(ids:List Int)(acc:List (List UInt8)),(∀bss n,K8 d.files ids acc=(some bss,n)->D.opensAcc ids d acc=(bss,.ok,d))/\(∀n,K8 d.files ids acc=(none,n)->∃acc',D.opensAcc ids d acc=(acc',.file 7 n,d)):=by
 intro ids
 induction ids with
 | nil=>
  intro acc;refine⟨fun bss n e=>?_,fun n e=>?_⟩
  ·simp only[K8,Prod.mk.injEq,Option.some.injEq] at e;rw[<-e.1];rfl
  ·simp[K8] at e
 | cons id ids ih=>
  intro acc;have hw:=h.whole (C8 H5 id.toNat)
  cases hf:d.file (C8 H5 id.toNat) with
  | none=>
   rw[hf] at hw;dsimp only at hw;have hl:q9 d.files (C8 H5 id.toNat)=none:=by rw[a4r,hf]
   rw[a5r hl];refine⟨fun bss n e=>by simp at e,fun n e=>?_⟩;simp only[Prod.mk.injEq,true_and] at e;subst e
   exact⟨acc,by rw[a1d hw (by simp)];simp[Er.code]⟩
  | some b=>
   rw[hf] at hw;dsimp only at hw;have hl:q9 d.files (C8 H5 id.toNat)=some b:=by rw[a4r,hf]
   rw[a5q hl,a3o hw];exact ih (acc++[b])
theorem b4B{d:D}(h:d.Calm):d.kopen.2.2=d/\d.kopen.1=(J6 d.files).1/\d.kopen.2.1.code=(J6 d.files).2.1/\(d.kopen.2.1.code=7->d.kopen.2.1.name=(J6 d.files).2.2)/\(d.kopen.1=none<->d.kopen.2.1.code≠0):=by
 have hr:=h.readMan;have hl:=a4r d F5
 cases hf:d.file F5 with
 | none=>
  rw[hf] at hr hl;dsimp only at hr;have e:d.kopen=(none,.num 5,d):=by rw[a0K (by rw[hr]),hr]
  rw[e,a2M hl]
  exact⟨rfl,rfl,rfl,fun h=>by simp[Er.code] at h,by simp[Er.code]⟩
 | some m=>
  rw[hf] at hr hl;dsimp only at hr
  cases hm:readMan m with
  | none=>
   rw[hm] at hr;dsimp only at hr;have e:d.kopen=(none,.num 6,d):=by rw[a0K (by rw[hr]),hr]
   rw[e,a3F hl hm]
   exact⟨rfl,rfl,rfl,fun h=>by simp[Er.code] at h,by simp[Er.code]⟩
  | some r=>
   obtain⟨g,ids⟩:=r;rw[hm] at hr;dsimp only at hr;obtain⟨h1,h2⟩:=a9p h ids [];have e1:d.readMan.1=some (g,ids):=by rw[hr]
   have e2:d.readMan.2.2=d:=by rw[hr]
   cases hs:K8 d.files ids [] with
   | mk o n=>
    cases o with
    | some bss=>
     have e3:=h1 bss n hs;have e:d.kopen=(some (g,ids,bss),.ok,d):=by rw[a8c e1 (by rw[e2,e3]),e2,e3]
     rw[e,a4G hl hm hs]
     exact⟨rfl,rfl,rfl,fun h=>by simp[Er.code] at h,by simp[Er.code]⟩
    | none=>
     obtain⟨acc',e3⟩:=h2 n hs;have e:d.kopen=(none,.file 7 n,d):=by rw[a1n e1 (by rw[e2,e3];simp),e2,e3]
     rw[e,a2N hl hm hs];exact⟨rfl,rfl,rfl,fun _=>rfl,by simp[Er.code]⟩
end
end Go.Proofs.YtgpbhjjajpbeeaaGreatDoor
