/- A part of what the last file proves. -/
import Derived.Test.YtgpbhjjajpbeeaaGreatDoorR19
set_option linter.all false
set_option maxRecDepth 100000
namespace Go.Proofs.YtgpbhjjajpbeeaaGreatDoor
section
open Go.RowKit Go.Conc Go.Conc.Lib Go.Mw Go.Mc Go.Bi
open Go.ConcN (WgLive Has AtR0)
open Pl
open Zn (ext low kk Gr K0 Nx Full tp WPs Zf)
set_option linter.unusedSectionVars false
variable[Go.ConcR.Payload]
def fW(t:Tmp):Bool:=[1,2,6,7,8,9,10,11,12].contains t
abbrev xW(t:Tmp):Prop:=fW t=true
theorem c4K:Zn.CodeP zone workR1:=Zn.cOK.sound (by kernel_rfl)
theorem c5t:Zn.CodeU xW workR1:=Zn.useB.sound (by kernel_rfl)
theorem c3q{S:Sit}(hF:S.F=wF)(hT:S.T=wT):CodeB S Tryz.prog xW workR1:=
 Zn.codeB_x (codeB.sound (B:=sb) (fun t ht=>by rw[hT];exact ht) (fun f hf=>by rw[hF];exact hf) (by kernel_rfl)) (by kernel_rfl) (by kernel_rfl)
theorem b3Y{S:Sit}{w w2:World}{base n size:Nat}{e:TypeId}{v v':Value}{xs:List Value}(hW:WR S w w2)(hv:VR S v v')(h:w.ownsRow base e size v n xs)(hfl:∀x∈xs,∀y,VR S x y->y=x):
 a2M w2 e size v' n xs/\∀g,v'.ownBlock=some g->∃a,S.D a/\base<=a/\S.ren a=g:=by
 rcases h.2 with⟨rfl,rfl⟩|⟨g,cap,cur,rfl,hb,hg,hnc,hcm,hcs,htake⟩
 ·cases hv;exact⟨⟨h.1,.inl ⟨rfl,rfl⟩⟩,fun g hg=>by cases hg⟩
 ·cases hv with
  | slice a n c hD=>
   obtain⟨o',ho',hR⟩:=hW.get hD hg
   cases hR with
   | cells c c' e fr fr' hc hf=>
    refine⟨⟨h.1,.inr ⟨S.ren g,cap,c',fr',rfl,ho',hnc,hcm,hc.size.symm.trans hcs,?_⟩⟩,fun k hk=>⟨g,hD,hb,by simpa [Value.ownBlock] using hk⟩⟩;rw[<-htake];apply List.ext_getElem?;intro i;rw[List.getElem?_take,List.getElem?_take];split
    ·rename_i hi;rcases hc.get? i with⟨h1,h2⟩|⟨x,y,h1,h2,h3⟩
     ·rw[Array.getElem?_toList,Array.getElem?_toList,h1,h2]
     ·rw[Array.getElem?_toList,Array.getElem?_toList,h1,h2,hfl x ?_ y h3];rw[<-htake];have:(cur.toList.take (n*size))[i]?=some x:=by rw[List.getElem?_take,if_pos hi,Array.getElem?_toList,h1]
      exact List.mem_of_getElem? this
    ·rfl
theorem a9l{S:Sit}(k:Int)(l:List (Nat×Rec)):∀x∈l.flatMap (O5 k),∀y,VR S x y->y=x:=by
 intro x hx y hy;obtain⟨p,_,hp⟩:=List.mem_flatMap.1 hx;simp only[O5,List.mem_cons,List.not_mem_nil,or_false] at hp;rcases hp with rfl|rfl|rfl|rfl|rfl|rfl|rfl<;>cases hy<;>rfl
theorem bytes_at{w w':World}(h:∀a,a.block<w.heap.size->w'.cell? a=w.cell? a){v:Value}{l:List UInt8}(hb:Bytes w v l):Bytes w' v l:=by
 obtain⟨a,c,rfl,h1,h2,h3⟩:=hb;refine⟨a,c,rfl,h1,h2,fun hx=>?_⟩;obtain⟨b,rfl,h4⟩:=h3 hx;exact⟨b,rfl,fun i x hi=>(h _ (lt_of_cell (h4 i x hi))).trans (h4 i x hi)⟩
def AW1(m:Nat)(l:List UInt8)(i:Nat)(F:Frame)(w':World):Prop:=∃a',F=(base 59).at a' K0/\a'.defers=[]/\a'.tmps.size=29/\a'.tmps[1]?=some (.pointer (some ⟨m - 1,0,none⟩))/\∃u,a'.tmps[6]?=some u/\w'.ownsRow m 160 7 u (P7 l).length ((P7 l).flatMap (O5 i))
theorem b87{i n fc fb rb:Nat}{w:World}{Sh DB:Nat->Prop}{v:Value}{l:List UInt8}(hW:WPs zone Sh w)(hfbS:¬Sh fb)(hfb:w.cell? ⟨fb,0,none⟩=some (.slice (some ⟨rb,0,none⟩) n fc))(hn:i<n/\n<=fc/\n<2147483648)(hc:w.cell? ⟨rb,i,none⟩=some v)(hv:Bytes w v l)(hl:l.length<=1099511627776):
 Zn.Goe Tryz.prog zone Sh xW (AW1 (w.heap.size+1) l i) ((base 59).at ⟨vW undef undef undef undef w.heap.size fb,[]⟩ [.code workR1]) [] (ice DB w (.cells #[.int .i64 i] 3 (0,1))):=by
 have hwl:WPs zone Sh (ice DB w (.cells #[.int .i64 i] 3 (0,1))):=c1h hW (.cells _ _ _ (Zn.AP.one (.int .i64 i)));have hmS:¬Sh w.heap.size:=fun h=>by have:=hW.sh _ h;omega
 refine b6i (Q0:=fun e a' w'=>e=.normal/\a'.defers=[]/\a'.tmps.size=29/\a'.tmps[1]?=some (.pointer (some ⟨w.heap.size+1 - 1,0,none⟩))/\∃u,a'.tmps[6]?=some u/\w'.ownsRow (w.heap.size+1) 160 7 u (P7 l).length ((P7 l).flatMap (O5 i))) pqk ⟨?_,fun d hd=>(by cases hd),hwl⟩ rfl c4K c5t (fun τ p=>?_) ?_ ?_
 ·intro t ht;have hm:t=1\/t=2\/t=6\/t=7\/t=8\/t=9\/t=10\/t=11\/t=12:=by
   have h':fW t=true:=ht;simpa [fW] using h'
  rcases hm with rfl|rfl|rfl|rfl|rfl|rfl|rfl|rfl|rfl
  ·exact .ptr _ ⟨by rw[a0q];exact Nat.lt_succ_self _,hmS⟩
  ·exact .ptr _ ⟨by rw[a0q];exact Nat.lt_succ_of_lt (lt_of_cell hfb),hfbS⟩
  all_goals exact .tuple _ Zn.AP.nil
 ·have hold:∀a:Addr,a.block<w.heap.size->(tp (ice DB w (.cells #[.int .i64 i] 3 (0,1))) τ p).cell? a=w.cell? a:=fun a h=>b8z (D:=DB) h;have hb:(tp (ice DB w (.cells #[.int .i64 i] 3 (0,1))) τ p).cell? ⟨w.heap.size,0,none⟩=some (.int .i64 i):=by
   show(ice DB w (.cells #[.int .i64 i] 3 (0,1))).cell? _=_;simp[World.cell?,a7L]
  refine Code.wp_mono ?_ (c4C undef undef undef undef w.heap.size fb rb i n fc v l _ hb ((hold _ (lt_of_cell hfb)).trans hfb) hn.1 hn.2.1 hn.2.2 ((hold _ (lt_of_cell hc)).trans hc) (bytes_at hold hv) hl);intro e a' w' q;cases e<;>first|exact q.elim|skip
  obtain⟨q1,q1',q1'',u,q2,q3,-⟩:=q;refine⟨rfl,q1,q1',q1'',u,q2,?_⟩;have e1:(tp (ice DB w (.cells #[.int .i64 i] 3 (0,1))) τ p).heap.size=w.heap.size+1:=a0q;rw[e1] at q3;exact q3
 ·rintro e a' w' ⟨rfl,h1,h2⟩;exact⟨rfl,a',rfl,h1,h2⟩
 ·rintro F w' ⟨a',rfl,_⟩;exact⟨a',rfl⟩
theorem c4M(T:Array Value)(hT:T.size=29):T=#[T.getD 0 undef,T.getD 1 undef,T.getD 2 undef,T.getD 3 undef,T.getD 4 undef,T.getD 5 undef,T.getD 6 undef,T.getD 7 undef,T.getD 8 undef,T.getD 9 undef,T.getD 10 undef,T.getD 11 undef,T.getD 12 undef,T.getD 13 undef,T.getD 14 undef,T.getD 15 undef,T.getD 16 undef,T.getD 17 undef,T.getD 18 undef,T.getD 19 undef,T.getD 20 undef,T.getD 21 undef,T.getD 22 undef,T.getD 23 undef,T.getD 24 undef,T.getD 25 undef,T.getD 26 undef,T.getD 27 undef,T.getD 28 undef]:=by
 apply Array.ext
 ·exact hT
 intro j h1 h2;have hg:∀k(h:k<T.size),T[k]=T.getD k undef:=fun k h=>by simp[Array.getD,h]
 rw[hg];have h3:j<29:=by omega
 match j,h3 with
 | 0,_=>rfl
 | 1,_=>rfl
 | 2,_=>rfl
 | 3,_=>rfl
 | 4,_=>rfl
 | 5,_=>rfl
 | 6,_=>rfl
 | 7,_=>rfl
 | 8,_=>rfl
 | 9,_=>rfl
 | 10,_=>rfl
 | 11,_=>rfl
 | 12,_=>rfl
 | 13,_=>rfl
 | 14,_=>rfl
 | 15,_=>rfl
 | 16,_=>rfl
 | 17,_=>rfl
 | 18,_=>rfl
 | 19,_=>rfl
 | 20,_=>rfl
 | 21,_=>rfl
 | 22,_=>rfl
 | 23,_=>rfl
 | 24,_=>rfl
 | 25,_=>rfl
 | 26,_=>rfl
 | 27,_=>rfl
 | 28,_=>rfl
 | k+29,h=>exact absurd h (by omega)
theorem c1s{f:FuncId}(h:wF f):zone.F f:=by
 have hm:f∈[61,71,126,127,128,166]:=by simpa [wF,sb] using h
 have:[61,71,126,127,128,166].all (fun f=>fs.testBit f)=true:=by decide +kernel
 exact List.all_eq_true.1 this f hm
theorem c1t{Z:Pz}{i bx n fc fb rb:Nat}{w w2:World}{Sh DB:Nat->Prop}{v:Value}{l:List UInt8}{Stop:(Nat->Prop)->Goroutine->World->Prop}(hZ:a0a Z)(hP:Z.P=Tryz.prog)(hW:WPs zone Sh w)(V0 V3 V4 V5:Value)(ds:List Deferred)
 (hDB:∀b,DB b->Tryz.prog.globals.size<=b/\b<w.heap.size/\Z.Eld b/\w2.heap[b]?=w.heap[b]?/\∃c e fr,w.heap[b]?=some (.cells c e fr)/\∀v∈c,Plain DB v)(hfbD:DB fb)(hfbS:¬Sh fb)
 (hfb:w.cell? ⟨fb,0,none⟩=some (.slice (some ⟨rb,0,none⟩) n fc))(hn:i<n/\n<=fc/\n<2147483648)(hc:w.cell? ⟨rb,i,none⟩=some v)(hv:Bytes w v l)(hl:l.length<=1099511627776)
 (hbx:w2.heap[bx]?=some (.cells #[.int .i64 i] 3))(hbL:Z.L0<=bx/\w.heap.size<=bx)(hL:Z.L0<=w2.heap.size)(hLw:w.heap.size<=Z.L0)(gl:Tryz.prog.globals.size<=w.heap.size)
 (hk:∀(O:Nat->Prop)(u V2 x7 x8 x9 x10 x11 x12:Value)(w3:World),Nw Z O w3->¬O bx->Kp Z bx w2 w3->a2M w3 160 7 u (P7 l).length ((P7 l).flatMap (O5 i))->(∀g,u.ownBlock=some g->O g)->
   (∀b,O b->∃o,w3.heap[b]?=some o/\Zn.ObjP {zone with D:=fun b=>DB b\/b=bx\/O b} o)->
   ∃T,Ww Z i bx Stop T O (G ((baseD 59).at ⟨#[V0,.pointer (some ⟨bx,0,none⟩),V2,V3,V4,V5,u,x7,x8,x9,x10,x11,x12,undef,undef,undef,undef,undef,undef,undef,undef,undef,undef,undef,undef,undef,undef,undef,undef],ds⟩ [.code (a1G 2)]) [bot]) w3):
 ∃T,Ww Z i bx Stop T (fun _=>False) (G ((baseD 59).at ⟨#[V0,.pointer (some ⟨bx,0,none⟩),.pointer (some ⟨fb,0,none⟩),V3,V4,V5,undef,undef,undef,undef,undef,undef,undef,undef,undef,undef,undef,undef,undef,undef,undef,undef,undef,undef,undef,undef,undef,undef,undef],ds⟩ [.code workR1,.code (a1G 2)]) [bot]) w2:=by
 have hT2s:(#[V0,.pointer (some ⟨bx,0,none⟩),.pointer (some ⟨fb,0,none⟩),V3,V4,V5,undef,undef,undef,undef,undef,undef,undef,undef,undef,undef,undef,undef,undef,undef,undef,undef,undef,undef,undef,undef,undef,undef,undef]:Array Value).size=29:=rfl;obtain⟨T2,hT2⟩:∃T2:Array Value,T2=#[V0,.pointer (some ⟨bx,0,none⟩),.pointer (some ⟨fb,0,none⟩),V3,V4,V5,undef,undef,undef,undef,undef,undef,undef,undef,undef,undef,undef,undef,undef,undef,undef,undef,undef,undef,undef,undef,undef,undef,undef]:=⟨_,rfl⟩;rw[<-hT2] at hT2s⊢;have hgoe:=b87 (DB:=DB) hW hfbS hfb hn hc hv hl;have hDlt:∀b,DB b->b<w.heap.size:=fun b h=>(hDB b h).2.1;have hne:∀b,DB b->b≠w.heap.size:=fun b h=>by have:=hDlt b h;omega
 have hbxl:bx<w2.heap.size:=Bi.lt_of_some hbx;have hwr:WR (a3c DB wF wT w.heap.size bx (fun t=>T2.getD t undef) ds .deferred) (ice DB w (.cells #[.int .i64 i] 3 (0,1))) w2:=
  c1i (fun b h=>⟨(hDB b h).2.1,(hDB b h).2.2.2⟩) hbx hbL.2
 have ren1:∀b,DB b->(a3c DB wF wT w.heap.size bx (fun t=>T2.getD t undef) ds .deferred).ren b=b:=fun b h=>if_neg (hne b h);have ren2:(a3c DB wF wT w.heap.size bx (fun t=>T2.getD t undef) ds .deferred).ren w.heap.size=bx:=if_pos rfl;have hfr:FrR (a3c DB wF wT w.heap.size bx (fun t=>T2.getD t undef) ds .deferred) Tryz.prog xW [] ((base 59).at ⟨vW undef undef undef undef w.heap.size fb,[]⟩ [.code workR1]) ((baseD 59).at ⟨T2,ds⟩ [.code workR1]):=by
  refine⟨rfl,hT2s,?_,rfl,?_,rfl,.inl rfl,rfl,rfl,⟨by simp[base,Frame.at],by simp[baseD,Frame.at]⟩,fun h=>absurd rfl h,rfl,fun t _=>rfl,fun _=>⟨rfl,rfl⟩⟩
  ·intro t ht;have hm:t=1\/t=2\/t=6\/t=7\/t=8\/t=9\/t=10\/t=11\/t=12:=by
    have h':fW t=true:=ht;simpa [fW] using h'
   subst hT2;rcases hm with rfl|rfl|rfl|rfl|rfl|rfl|rfl|rfl|rfl
   ·have:=VR.ptr (S:=a3c DB wF wT w.heap.size bx (fun t=>(#[V0,.pointer (some ⟨bx,0,none⟩),.pointer (some ⟨fb,0,none⟩),V3,V4,V5,undef,undef,undef,undef,undef,undef,undef,undef,undef,undef,undef,undef,undef,undef,undef,undef,undef,undef,undef,undef,undef,undef,undef]:Array Value).getD t undef) ds .deferred) ⟨w.heap.size,0,none⟩ (.inr rfl);unfold rA at this;rw[ren2] at this;exact this
   ·have:=VR.ptr (S:=a3c DB wF wT w.heap.size bx (fun t=>(#[V0,.pointer (some ⟨bx,0,none⟩),.pointer (some ⟨fb,0,none⟩),V3,V4,V5,undef,undef,undef,undef,undef,undef,undef,undef,undef,undef,undef,undef,undef,undef,undef,undef,undef,undef,undef,undef,undef,undef,undef]:Array Value).getD t undef) ds .deferred) ⟨fb,0,none⟩ (.inl hfbD);unfold rA at this;rw[ren1 fb hfbD] at this;exact this
   all_goals exact a2I
  ·intro x hx;obtain rfl:x=.code workR1:=by simpa [Frame.at] using hx
   exact .code _ (c3q rfl rfl)
 have hpq:PQB (a3c DB wF wT w.heap.size bx (fun t=>T2.getD t undef) ds .deferred) Tryz.prog:=by
  refine pqb rfl ?_ ?_ hwr.inj
  ·rintro b (h|rfl)
   ·exact(hDB b h).1
   ·exact gl
  ·rintro b (h|rfl)
   ·rw[ren1 b h];exact(hDB b h).1
   ·rw[ren2];omega
 have hwk:=c3e (Rd1 Z bx) (a3c DB wF wT w.heap.size bx (fun t=>T2.getD t undef) ds .deferred) pqk (fun F w τ p h=>h) [.code (a1G 2)] [bot] hgoe _ ((baseD 59).at ⟨T2,ds⟩ [.code workR1]) [] w2 (fun _=>False) (.refl _) (fun b h=>.inl h)
  (fun f fn c=>c0T rfl rfl f fn c) hpq (b8A hDlt _ _) hfr .nil hwr (fun b=>⟨fun h=>h.elim,fun⟨a,_,h,_⟩=>h.elim⟩) (by
   rintro a (h|rfl)
   ·rw[ren1 a h];exact .inl (.inl (hDB a h).2.2.1)
   ·rw[ren2];exact .inl (.inr rfl)) (by rw[a0q];omega) (by omega)
 have hbA:bx≠Z.Al:=by have:=hZ.A0;omega
 have hbC:bx≠Z.Cb:=by have:=hZ.C0;omega
 refine b3h hZ (fun _ h=>h.elim) hL ⟨fun h=>h,hbxl,hbA,hbC⟩ (hP▸hwk) ?_;rintro O g w3 ⟨S,fr,fr2,wl,hle,hdw,rfl,hF,hWR,hcur,hImg,hro,⟨a',hFa,hda,h29,hu1,u,hu,hown⟩⟩ hN hOb hKp;obtain⟨f1,f2,f3,f4,f5,f6,f7⟩:=fr;simp only[ext,Frame.at,Frame.mk.injEq] at hFa;obtain⟨rfl,rfl,e3,rfl,rfl,rfl,rfl⟩:=hFa;obtain rfl:=To.append_self e3;obtain⟨g1,g2,g3,g4,g5,g6,g7⟩:=fr2;obtain⟨c1,c2,c3,c4,c5,c6,c7,c8,c9,c10,c11,c12,c13⟩:=hF;dsimp only at c1 c2 c3 c4 c6 c9;obtain⟨k1,k2⟩:=c13;have k3:=(k2 rfl).2;replace k2:=(k2 rfl).1;dsimp only at k1 k2 k3;subst c1 c4 c6 c9;rw[hle.k.2.1] at k2;rw[hle.k.2.2] at k3;subst k2 k3;rw[hle.k.1] at k1;have hsz:g2.size=29:=by omega
 have kept:∀t,fW t=false->g2.getD t undef=T2.getD t undef:=fun t ht=>k1 t fun h=>by
  have h':fW t=true:=h;rw[ht] at h';cases h'
 have q1:g2.getD 1 undef=.pointer (some ⟨bx,0,none⟩):=by
  have h1:=c3 1 (show fW 1=true by decide);rw[Array.getD_eq_getD_getElem?,hu1] at h1;have h2:∀y,VR S (.pointer (some ⟨w.heap.size+1 - 1,0,none⟩)) y->y=.pointer (some ⟨bx,0,none⟩):=by
   intro y hy
   cases hy with
   | ptr a ha=>
    unfold rA;rw[show w.heap.size+1 - 1=w.heap.size from rfl,hle.ren _ (.inr rfl),ren2]
  exact h2 _ h1
 have v6:VR S u (g2.getD 6 undef):=by
  have:=c3 6 (show fW 6=true by decide);rw[Array.getD_eq_getD_getElem?,hu] at this;exact this
 obtain⟨hrow,hrb⟩:=b3Y hWR v6 hown (a9l i _);have hS0:∀a,S.D a->w.heap.size+1<=a->S.W a:=fun a h1 h2=>by
  rcases hdw a h1 with(h|h)|h
  ·have:=hDlt a h;omega
  ·omega
  ·exact h
 have:=hk O (g2.getD 6 undef) (g2.getD 2 undef) (g2.getD 7 undef) (g2.getD 8 undef) (g2.getD 9 undef) (g2.getD 10 undef) (g2.getD 11 undef) (g2.getD 12 undef) w3 hN hOb hKp hrow (fun g hg=>by
  obtain⟨a,h1,h2,rfl⟩:=hrb g hg;exact(hImg _).2 ⟨a,h1,hS0 a h1 h2,rfl⟩) (fun b hb=>by
  obtain⟨a,h1,h2,rfl⟩:=(hImg b).1 hb;obtain⟨o,o',h3,h4,h5⟩:=hWR.obj a h1 (hcur a h1);refine⟨o',h4,h5.right (fun b h=>?_) (fun f h=>?_) fun t _=>rfl⟩
  ·rcases hdw b h with(h|h)|h
   ·rw[hle.ren b (.inl h),ren1 b h];exact .inl h
   ·rw[hle.ren b (.inr h),h,ren2];exact .inr (.inl rfl)
   ·exact .inr (.inr ((hImg _).2 ⟨b,‹_›,h,rfl⟩))
  ·rw[hle.F] at h;exact c1s h)
 have e29:=c4M g2 hsz;rw[show g2.getD 0 undef=V0 by rw[kept 0 (by decide),hT2];rfl] at e29;rw[show g2.getD 3 undef=V3 by rw[kept 3 (by decide),hT2];rfl] at e29;rw[show g2.getD 4 undef=V4 by rw[kept 4 (by decide),hT2];rfl] at e29;rw[show g2.getD 5 undef=V5 by rw[kept 5 (by decide),hT2];rfl] at e29;rw[show g2.getD 13 undef=undef by rw[kept 13 (by decide),hT2];rfl] at e29;rw[show g2.getD 14 undef=undef by rw[kept 14 (by decide),hT2];rfl] at e29;rw[show g2.getD 15 undef=undef by rw[kept 15 (by decide),hT2];rfl] at e29;rw[show g2.getD 16 undef=undef by rw[kept 16 (by decide),hT2];rfl] at e29;rw[show g2.getD 17 undef=undef by rw[kept 17 (by decide),hT2];rfl] at e29;rw[show g2.getD 18 undef=undef by rw[kept 18 (by decide),hT2];rfl] at e29;rw[show g2.getD 19 undef=undef by rw[kept 19 (by decide),hT2];rfl] at e29;rw[show g2.getD 20 undef=undef by rw[kept 20 (by decide),hT2];rfl] at e29;rw[show g2.getD 21 undef=undef by rw[kept 21 (by decide),hT2];rfl] at e29;rw[show g2.getD 22 undef=undef by rw[kept 22 (by decide),hT2];rfl] at e29;rw[show g2.getD 23 undef=undef by rw[kept 23 (by decide),hT2];rfl] at e29;rw[show g2.getD 24 undef=undef by rw[kept 24 (by decide),hT2];rfl] at e29;rw[show g2.getD 25 undef=undef by rw[kept 25 (by decide),hT2];rfl] at e29;rw[show g2.getD 26 undef=undef by rw[kept 26 (by decide),hT2];rfl] at e29;rw[show g2.getD 27 undef=undef by rw[kept 27 (by decide),hT2];rfl] at e29;rw[show g2.getD 28 undef=undef by rw[kept 28 (by decide),hT2];rfl] at e29;rw[q1] at e29;rw[<-e29] at this;exact this
end
section
open Go.RowKit Go.Conc Go.Conc.Lib Go.Mw Go.To
open Go.ConcN (WgLive)
open Go.ConcR (WgAt)
open Zn (tp)
open Go.Mc (Pz a0a R0 D0 W0 Spawns Fin a0A a0r Works)
set_option linter.unusedSectionVars false
variable[Go.ConcR.Payload]
abbrev b9z:Oper:={dst:=some 12,op:=.alloc 143,type:=0,pos:= "keydir.go:115",after:=#[],guard:=none}
abbrev b9A:Oper:={dst:=some 13,op:=.alloc 149,type:=0,pos:= "keydir.go:116",after:=#[],guard:=none}
abbrev a4I:Array Oper:=#[{dst:=some 70,op:=.load 128 (.tmp 6),type:=128,pos:= "keydir.go:117",after:=#[],guard:=none},
 {dst:=some 71,op:=.call {callee:=.builtin .len,args:=#[.tmp 70],argTypes:=#[128]},type:=3,pos:= "keydir.go:117",after:=#[{on:=0,ground:=.data}],guard:=none},
 {dst:=some 72,op:=.move (.const (.int .i64 0)),type:=3,pos:= "keydir.go:117",after:=#[],guard:=none}]
theorem c3G:I5 6=.seq (.region 16 #[b9z] false) (I5 7):=by kernel_rfl
theorem c3H:I5 7=.seq (.region 17 #[b9A] false) (I5 8):=by kernel_rfl
theorem c3I:I5 8=.seq (.seq (.region 18 a4I false) (.block 2 (.loop Y8))) (I5 9):=by kernel_rfl
theorem b9B(ρ:Operand->Value)(w:World):(execOp ρ b9z).run Tryz.prog w=.ok (.value (.pointer (some ⟨w.heap.size,0,none⟩))) (w.alloc (.cells #[.int .i64 0] 143))/\(execOp ρ b9z).events Tryz.prog w #[]=#[]:=by
 constructor<;>simp[go_sem]
theorem b9C(ρ:Operand->Value)(w:World):(execOp ρ b9A).run Tryz.prog w=.ok (.value (.pointer (some ⟨w.heap.size,0,none⟩))) (w.alloc (.cells #[.int .u64 0,.int .u32 0] 149))/\(execOp ρ b9A).events Tryz.prog w #[]=#[]:=by
 constructor<;>simp[go_sem]
theorem b5C{ρ:Operand->Value}{a:Option Addr}{n c:Nat}(h:ρ (.tmp 70)=.slice a n c)(w:World):(execOp ρ a4I[1]).run Tryz.prog w=.ok (.value (.int .i64 n)) w/\(execOp ρ a4I[1]).events Tryz.prog w #[]=#[]:=by
 constructor<;>simp[go_sem,h]
theorem b63{ρ:Operand->Value}{ad:Addr}{v:Value}(h:ρ (.tmp 6)=.pointer (some ad)){w:World}(hc:w.cell? ad=some v):(execOp ρ a4I[0]).run Tryz.prog w=.ok (.value v) w/\(execOp ρ a4I[0]).events Tryz.prog w #[]=#[⟨.cell ad,false,false⟩]:=by
 constructor<;>simp[go_sem,h,hc]
section
variable{P:Program}{B:Nat}{b:Frame}{a:Act}{k:List Item}{cs:List Frame}{w:World}{Sh:Nat->Prop}{Ψ:Goroutine->World->(Nat->Prop)->Prop}
theorem b5D[To.Lo]{ops:Array Oper}{i:Nat}{rest:List Nat}{o:Oper}(ho:ops[i]?=some o)(hw:Region.wanted o (yielded ops a.tmps)=true)(hk:b.kind≠.early)(he:∀w,(execOp a.eval o).events P w #[]=#[])
 (h:∀τ p,∃v w',(execOp a.eval o).run P (tp w τ p)=.ok (.value v) w'/\ToB P B (G (b.at (a.put o.dst v) (.inRegion ops rest::k)) cs) w' Sh Ψ):ToB P B (G (b.at a (.inRegion ops (i::rest)::k)) cs) w Sh Ψ:=by
 refine ToB.step rfl fun τ p=>?_;obtain⟨v,w',h1,h2⟩:=h τ p;refine⟨_,w',_,B,stepG_value ho hw hk h1,Nat.le_refl _,?_,h2⟩;rw[show listed P b.fn a o (tp w τ p)=#[] by unfold listed;rw[he];exact seen_none _ _];simp
end
section
variable{Z:Pz}{j:Nat}{Next Next':Option Nat->Goroutine->World->Prop}{x:Option Nat}{g:Goroutine}{w:World}{A A':Goroutine->World->Prop}
open Mc
theorem b4b(h:∀x g w,Next x g w->Next' x g w)(k:AtGoS Z j Next x g w):AtGoS Z j Next' x g w:=let ⟨a,b,g',c,h1,h2,h3,h4,h5⟩:=k;⟨a,b,g',c,h1,h2,h3,h4,h _ _ _ h5⟩
theorem b4c(h:∀x g w,Next x g w->Next' x g w)(k:AtKeS Z j Next x g w):AtKeS Z j Next' x g w:=let ⟨a,g',b,c⟩:=k;⟨a,g',b,Y7 (fun _ _ _=>b4b h) c⟩
theorem b65(h:∀x g w,Next x g w->Next' x g w)(k:AtA1 Z j Next x g w):AtA1 Z j Next' x g w:=let ⟨a,b⟩:=k;⟨a,fun v hv hw=>let ⟨g',c,d⟩:=b v hv hw;⟨g',c,Y7 (fun _ _ _=>b4c h) d⟩⟩
theorem b4d(h:∀x g w,Next x g w->Next' x g w)(k:AtKdS Z j Next x g w):AtKdS Z j Next' x g w:=let ⟨a,g',b,c⟩:=k;⟨a,g',b,Y7 (fun _ _ _=>b65 h) c⟩
theorem b2H(h:∀g w,A g w->A' g w):∀(r:Nat)(x:Option Nat)(g:Goroutine)(w:World),Spawns Z (Fin Z A) r x g w->Spawns Z (Fin Z A') r x g w:=by
 intro r
 induction r with
 | zero=>exact fun x g w⟨a,b⟩=>⟨a,Y7 (fun _ _ _=>b0D h) b⟩
 | succ r ih=>exact fun x g w k=>Y7 (Stop:=AtKdS Z (Z.n - (r+1)) (Spawns Z (Fin Z A) r)) (fun _ _ _=>b4d ih) k
end
noncomputable def mkZ(w:World)(Sh:Nat->Prop)(Cb fb:Nat)(v0:Value)(n:Nat)(Res:Nat->Nat->(Nat->Prop)->World->Prop):Pz:=
 {P:=Tryz.prog,ty:=149,Wg:=w.heap.size+1,Al:=w.heap.size,tAl:=143,Cb:=Cb,tCb:=154,c:=0,n:=n,L0:=w.heap.size+2,Eld:=fun b=>b<w.heap.size/\b≠Cb/\¬Sh b,ShB:=Sh,Res:=Res,e0:=fb,v0:=v0}
section
variable{Z:Pz}{c d:Nat}{T0:Array Value}{V4 V6 V11:Value}{K:List Item}{cs:List Frame}{x:Option Nat}{w w':World}{g:Goroutine}
theorem c1K(h:R0 (at_ Z c) x w w'):R0 (at_ Z d) x w w':=⟨h.size,h.eld,h.cur,h.live,h.shb⟩
theorem a8w{T:Array Value}{j:Nat}(h:Lay (at_ Z c) T0 V4 V6 V11 T j):Lay (at_ Z d) T0 V4 V6 V11 T j:=⟨h.size,h.t4,h.t6,h.t11,h.t12,h.t13,h.t71,h.t72,h.keep⟩
theorem a6m{w00:World}(h:a5x (at_ Z c) w00 T0 V4 V6 V11 K cs g w):a5x (at_ Z d) w00 T0 V4 V6 V11 K cs g w:=by
 obtain⟨T,h1,T',h2,h3,h4,h5⟩:=h;exact⟨T,a8w h1,T',h2,h3,h4,c1K h5.1,h5.2⟩
theorem b66(h:b5z (at_ Z c) T0 V4 V6 V11 K cs g w):b5z (at_ Z d) T0 V4 V6 V11 K cs g w:=let ⟨T,h1,h2⟩:=h;⟨T,a8w h1,h2⟩
end
section
variable{w:World}{Sh:Nat->Prop}{Cb fb n:Nat}{fa:Option Addr}{fc:Nat}{Res:Nat->Nat->(Nat->Prop)->World->Prop}{V4 V11:Value}{K:List Item}{cs:List Frame}{T:Array Value}{Ψ:Goroutine->World->(Nat->Prop)->Prop}
theorem b9D{v0:Value}(hSh:∀b,Sh b->b<w.heap.size)(hCb:Cb<w.heap.size)(hShC:¬Sh Cb)(hfb:fb<w.heap.size)(hShf:¬Sh fb)(hne:fb≠Cb)
 (hres:∀i bx O w1 w2,w1.heap.size<=w2.heap.size->w2.heap[bx]?=w1.heap[bx]?->(∀b,O b->w2.heap[b]?=w1.heap[b]?)->(∀k,Mc.myCell i k->w2.cell? ⟨Cb,k,none⟩=w1.cell? ⟨Cb,k,none⟩)->Res i bx O w1->Res i bx O w2){c:Nat}(hc:0<c):a0a (at_ (mkZ w Sh Cb fb v0 n Res) c):=by
 refine⟨hc,?_,?_,?_,?_,?_,?_,?_,?_,?_,hres⟩
 ·show w.heap.size+1≠w.heap.size;omega
 ·show w.heap.size+1≠Cb;omega
 ·show w.heap.size≠Cb;omega
 ·show w.heap.size+1<w.heap.size+2;omega
 ·show w.heap.size<w.heap.size+2;omega
 ·show Cb<w.heap.size+2;omega
 ·rintro b ⟨h1,h2,h3⟩;exact⟨show b<w.heap.size+2 by omega,show b≠w.heap.size+1 by omega,show b≠w.heap.size by omega,h2,h3⟩
 ·intro b (h:Sh b);have:=hSh b h;exact⟨show b<w.heap.size+2 by omega,show b≠w.heap.size+1 by omega,show b≠w.heap.size by omega,fun e=>hShC (by have e':b=Cb:=e;exact e'▸h)⟩
 ·exact⟨hfb,hne,hShf⟩
theorem b4e[To.Lo](hSh:∀b,Sh b->b<w.heap.size)(hfb:w.heap[fb]?=some (.cells #[.slice fa n fc] 128))(hShf:¬Sh fb)(hCb:∃cs0:Array Value,w.heap[Cb]?=some (.cells cs0 154)/\cs0.size=2*n)(hShC:¬Sh Cb)(hne:fb≠Cb)(hn:n<2147483648)
 (hres:∀i bx O w1 w2,w1.heap.size<=w2.heap.size->w2.heap[bx]?=w1.heap[bx]?->(∀b,O b->w2.heap[b]?=w1.heap[b]?)->(∀k,Mc.myCell i k->w2.cell? ⟨Cb,k,none⟩=w1.cell? ⟨Cb,k,none⟩)->Res i bx O w1->Res i bx O w2)
 (hT:T.size=118)(h4:T[4]?=some V4)(h6:T[6]?=some (.pointer (some ⟨fb,0,none⟩)))(h11:T[11]?=some V11)
 (hworks:∀c i b w',0<c->i<n->w.heap.size+2<=b->(∀e,e<w.heap.size->e≠Cb->¬Tr Sh e->w'.heap[e]?=w.heap[e]?)->w'.heap[b]?=some (.cells #[.int .i64 i] 3)->a0A (mkZ w (Tr Sh) Cb fb (.slice fa n fc) n Res) w'->a0r (mkZ w (Tr Sh) Cb fb (.slice fa n fc) n Res) w'->
   WgLive 149 (w.heap.size+1) w'->Works (at_ (mkZ w (Tr Sh) Cb fb (.slice fa n fc) n Res) c) i b (born Tryz.prog (b5A (mkZ w (Tr Sh) Cb fb (.slice fa n fc) n Res) V4 (.pointer (some ⟨fb,0,none⟩)) V11 b)) w')
 (hnext:∀(w':World)(T':Array Value)(O:Nat->Nat->Prop)(bx:Nat->Nat),Lay (mkZ w (Tr Sh) Cb fb (.slice fa n fc) n Res) T V4 (.pointer (some ⟨fb,0,none⟩)) V11 T' n->(∀e,e<w.heap.size->e≠Cb->w'.heap[e]?=w.heap[e]?)->(∀i,i<n->Res i (bx i) (O i) w')->
   (∀i b,O i b->w.heap.size+2<=b/\b<w'.heap.size)->(∀i k b,O i b->O k b->i=k)->a0A (mkZ w (Tr Sh) Cb fb (.slice fa n fc) n Res) w'->a0r (mkZ w (Tr Sh) Cb fb (.slice fa n fc) n Res) w'->w.heap.size+2<=w'.heap.size->w'.os=w.os->w'.output=w.output->
   ∃Sh':Nat->Prop,(∀b,Sh b->Sh' b)/\Sh' (w.heap.size+1)/\To Tryz.prog (G (joined T' K) cs) w' Sh' Ψ):
 To Tryz.prog (G ((base 14).at ⟨T,[]⟩ (.code (I5 6)::K)) cs) w Sh Ψ:=by
 have hfl:fb<w.heap.size:=Bi.lt_of_some hfb;obtain⟨cs0,hCb0,hcs0⟩:=hCb;have hShf':¬Tr Sh fb:=fun hs=>hShf hs.2;have hCl:Cb<w.heap.size:=Bi.lt_of_some hCb0;rw[c3G];refine ToB.move rfl (fun _=>stepG_seq) (ToB.move rfl (fun _=>stepG_region) ?_);refine b5D (i:=0) (rest:=[]) (o:=b9z) rfl rfl (by decide) (fun w=>(b9B _ w).2) fun τ p=>⟨_,tp (w.alloc (.cells #[.int .i64 0] 143)) τ p,(b9B _ _).1,ToB.to_tp ?_⟩;have eT:Act.put ⟨T,[]⟩ b9z.dst (.pointer (some ⟨(tp w τ p).heap.size,0,none⟩))=⟨T.setIfInBounds 12 (.pointer (some ⟨w.heap.size,0,none⟩)),[]⟩:=rfl;rw[eT];clear eT;have t12:(T.setIfInBounds 12 (.pointer (some ⟨w.heap.size,0,none⟩)))[12]?=some (.pointer (some ⟨w.heap.size,0,none⟩)):=a0m (by omega);have t4:=C9 (u:=.pointer (some ⟨w.heap.size,0,none⟩)) (j:=12) h4 (by decide);have t6:=C9 (u:=.pointer (some ⟨w.heap.size,0,none⟩)) (j:=12) h6 (by decide);have t11:=C9 (u:=.pointer (some ⟨w.heap.size,0,none⟩)) (j:=12) h11 (by decide);have hs1:(T.setIfInBounds 12 (.pointer (some ⟨w.heap.size,0,none⟩))).size=118:=by simp[hT]
 have kp:=a3R (T:=T) (T0:=T) (fun _ _=>rfl) 12 (by decide) (.pointer (some ⟨w.heap.size,0,none⟩));generalize T.setIfInBounds 12 (.pointer (some ⟨w.heap.size,0,none⟩))=T1 at t12 t4 t6 t11 hs1 kp⊢;have z1:=a4n w (.cells #[.int .i64 0] 143);have n1:=b4a w (.cells #[.int .i64 0] 143);have o1:=fun b=>a6l w (.cells #[.int .i64 0] 143) (b:=b);have os1:(w.alloc (.cells #[.int .i64 0] 143)).os=w.os:=rfl;have ou1:(w.alloc (.cells #[.int .i64 0] 143)).output=w.output:=rfl;generalize w.alloc (.cells #[.int .i64 0] 143)=w1 at z1 n1 o1 os1 ou1⊢;rw[c3H];refine ToB.move rfl (fun _=>stepG_region_end) (ToB.move rfl (fun _=>stepG_seq) (ToB.move rfl (fun _=>stepG_region) ?_));refine b5D (i:=0) (rest:=[]) (o:=b9A) rfl rfl (by decide) (fun w=>(b9C _ w).2) fun τ p=>⟨_,tp (w1.alloc (.cells #[.int .u64 0,.int .u32 0] 149)) τ p,(b9C _ _).1,ToB.to_tp ?_⟩;have eT:Act.put ⟨T1,[]⟩ b9A.dst (.pointer (some ⟨(tp w1 τ p).heap.size,0,none⟩))=⟨T1.setIfInBounds 13 (.pointer (some ⟨w1.heap.size,0,none⟩)),[]⟩:=rfl;rw[eT];clear eT;rw[z1];have t13:(T1.setIfInBounds 13 (.pointer (some ⟨w.heap.size+1,0,none⟩)))[13]?=some (.pointer (some ⟨w.heap.size+1,0,none⟩)):=a0m (by omega);replace t4:=C9 (u:=.pointer (some ⟨w.heap.size+1,0,none⟩)) (j:=13) t4 (by decide);replace t6:=C9 (u:=.pointer (some ⟨w.heap.size+1,0,none⟩)) (j:=13) t6 (by decide);replace t11:=C9 (u:=.pointer (some ⟨w.heap.size+1,0,none⟩)) (j:=13) t11 (by decide);replace t12:=C9 (u:=.pointer (some ⟨w.heap.size+1,0,none⟩)) (j:=13) t12 (by decide);replace hs1:(T1.setIfInBounds 13 (.pointer (some ⟨w.heap.size+1,0,none⟩))).size=118:=by simp[hs1]
 replace kp:=a3R kp 13 (by decide) (.pointer (some ⟨w.heap.size+1,0,none⟩));generalize T1.setIfInBounds 13 (.pointer (some ⟨w.heap.size+1,0,none⟩))=T2 at t13 t12 t4 t6 t11 hs1 kp⊢;have z2:=a4n w1 (.cells #[.int .u64 0,.int .u32 0] 149);have n2:=b4a w1 (.cells #[.int .u64 0,.int .u32 0] 149);have o2:=fun b=>a6l w1 (.cells #[.int .u64 0,.int .u32 0] 149) (b:=b);have os2:(w1.alloc (.cells #[.int .u64 0,.int .u32 0] 149)).os=w1.os:=rfl;have ou2:(w1.alloc (.cells #[.int .u64 0,.int .u32 0] 149)).output=w1.output:=rfl;generalize w1.alloc (.cells #[.int .u64 0,.int .u32 0] 149)=w2 at z2 n2 o2 os2 ou2⊢;rw[z1] at n2;have old:∀b,b<w.heap.size->w2.heap[b]?=w.heap[b]?:=fun b hb=>(o2 b (by omega)).trans (o1 b hb);have hAl:w2.heap[w.heap.size]?=some (.cells #[.int .i64 0] 143):=(o2 _ (by omega)).trans n1;have hsz:w2.heap.size=w.heap.size+2:=by omega
 have hos:w2.os=w.os:=os2.trans os1;have hou:w2.output=w.output:=ou2.trans ou1;clear os1 ou1 os2 ou2 z1 n1 o1 z2 o2 w1 T1;rw[c3I];refine ToB.move rfl (fun _=>stepG_region_end) (ToB.move rfl (fun _=>stepG_seq) ?_);have hZ:=fun c hc=>b9D (w:=w) (Sh:=Tr Sh) (Cb:=Cb) (fb:=fb) (n:=n) (Res:=Res) (v0:=.slice fa n fc) (fun b hb=>hSh b hb.2) hCl (fun hs=>hShC hs.2) hfl hShf' hne hres (c:=c) hc;have hwg:WgAt 149 (w.heap.size+1) w2 0 0:=n2;refine ToB.phase (Z:=mkZ w (Tr Sh) Cb fb (.slice fa n fc) n Res) (Sh:=Sh) (B:=w.heap.size) (Cont:=b5z (at_ (mkZ w (Tr Sh) Cb fb (.slice fa n fc) n Res) 1) T V4 (.pointer (some ⟨fb,0,none⟩)) V11 K cs)
  (AnchW:=fun g w'=>∃w00,a5x (at_ (mkZ w (Tr Sh) Cb fb (.slice fa n fc) n Res) 1) w00 T V4 (.pointer (some ⟨fb,0,none⟩)) V11 K cs g w') rfl hZ hn rfl (by show w.heap.size<=w.heap.size+2;omega) (by show w.heap.size<=w.heap.size+1;omega) (Nat.le_refl _)
  (by show w.heap.size+2<=_;omega) ⟨0,hAl⟩ ⟨cs0,(old _ hCl).trans hCb0,hcs0⟩ hwg (fun g w⟨_,h⟩=>b6Z g w h) ?_ ?_ ?_
 ·rintro c hc x g w' ⟨w00,h⟩;exact Y7 (fun y g w=>b0C (fun g w=>b66) fun g w h=>⟨w00,a6m h⟩) (b60 (hZ c hc) rfl rfl g w' (a6m h))
 ·intro c τ p hc;have hZc:=hZ c hc;have hKn:Kn (at_ (mkZ w (Tr Sh) Cb fb (.slice fa n fc) n Res) c) none (tp w2 τ p) (tp w2 τ p):=⟨Mc.R0.refl _ _ _,⟨0,0,hwg⟩⟩;have t70:(T2.setIfInBounds 70 (.slice fa n fc))[70]?=some (.slice fa n fc):=a0m (by omega);have hl:Lay (at_ (mkZ w (Tr Sh) Cb fb (.slice fa n fc) n Res) c) T V4 (.pointer (some ⟨fb,0,none⟩)) V11 (((T2.setIfInBounds 70 (.slice fa n fc)).setIfInBounds 71 (.int .i64 n)).setIfInBounds 72 (.int .i64 0)) 0:=by
   refine⟨by simp[hs1],?_,?_,?_,?_,?_,?_,?_,a3R (a3R (a3R kp 70 (by decide) _) 71 (by decide) _) 72 (by decide) _⟩
   ·exact C9 (C9 (C9 t4 (by decide)) (by decide)) (by decide)
   ·exact C9 (C9 (C9 t6 (by decide)) (by decide)) (by decide)
   ·exact C9 (C9 (C9 t11 (by decide)) (by decide)) (by decide)
   ·exact C9 (C9 (C9 t12 (by decide)) (by decide)) (by decide)
   ·exact C9 (C9 (C9 t13 (by decide)) (by decide)) (by decide)
   ·exact C9 (a0m (by simp[hs1])) (by decide)
   ·exact a0m (by simp[hs1])
  have hh:=b62 (K:=K) (cs:=cs) hZc rfl rfl hn (w00:=tp w2 τ p) (T0:=T) (V4:=V4) (V6:=.pointer (some ⟨fb,0,none⟩)) (V11:=V11) (by show w.heap.size+2<=w2.heap.size;omega)
   (fun i b w' hi hb hr hbx hal hcb hlv=>hworks c i b w' hc hi hb (fun e h1 h2 h3=>(hr.eld e ⟨h1,h2,h3⟩).trans (old e h1)) hbx hal hcb hlv) n 0 _ (tp w2 τ p) (Nat.zero_add n) hl hKn
  refine b2H (fun g w h=>⟨tp w2 τ p,a6m h⟩) _ _ _ _ (a6R (fun Stop hk=>?_) hh);clear hh;refine J9 rfl (fun _=>stepG_seq) (J9 rfl (fun _=>stepG_region) ?_);refine c0y (i:=0) (rest:=[1,2]) (o:=a4I[0]) rfl rfl (by decide) fun w₁ h₁=>?_;have hfw:w₁.heap[fb]?=some (.cells #[.slice fa n fc] 128):=(h₁.eld fb ⟨hfl,hne,hShf'⟩).trans ((old fb hfl).trans hfb);have hcell:w₁.cell? ⟨fb,0,none⟩=some (.slice fa n fc):=by simp[World.cell?,hfw]
  have hld:=b63 (J7 (ds:=[]) t6) hcell;refine⟨_,w₁,none,hld.1,⟨Nat.le_refl _,rfl,rfl,rfl,fun _ _ _=>rfl,.inl rfl,?_⟩,?_⟩
  ·rw[show listed (at_ (mkZ w (Tr Sh) Cb fb (.slice fa n fc) n Res) c).P (base 14).fn ⟨T2,[]⟩ a4I[0] w₁=#[⟨.cell ⟨fb,0,none⟩,false,false⟩] by show listed Tryz.prog (base 14).fn ⟨T2,[]⟩ a4I[0] w₁=_;unfold listed;rw[hld.2,seen_eq b9u (by simp)]];intro e he;rw[Array.mem_singleton] at he;subst he;exact⟨Bi.lt_of_some hfw,rfl,.inl ⟨⟨hfl,hne,hShf'⟩,rfl⟩⟩
  ·replace hk:=b5V hk h₁;refine a2i (i:=1) (rest:=[2]) (o:=a4I[1]) rfl rfl (by decide) (fun w=>(b5C (J7 (ds:=[]) t70) w).1) (fun w=>(b5C (J7 (ds:=[]) t70) w).2) ?_;refine a2i (i:=2) (rest:=[]) (o:=a4I[2]) (v:=.int .i64 0) rfl rfl (by decide) (fun w=>rfl) (fun w=>rfl) ?_;exact J9 rfl (fun _=>stepG_region_end) (J9 rfl (fun _=>stepG_block) (J9 rfl (fun _=>stepG_loop) hk))
 ·intro w' g' O bx ⟨T',hT',hm⟩ he hr hO hd hal hcb hL0 hos' hou';have hel:∀e,e<w.heap.size->e≠Cb->w'.heap[e]?=w.heap[e]?:=fun e h1 h2=>(he e ((Classical.em (Tr Sh e)).symm.imp (fun h3=>⟨h1,h2,h3⟩) id)).trans (old e h1);obtain⟨Sh',h1,h2,h3⟩:=hnext w' T' O bx (a8w (c:=1) (d:=0) hT') hel hr hO hd hal hcb hL0 (hos'.trans hos) (hou'.trans hou);exact⟨Sh',h1,h2,c2l hm h3⟩
end
end
section
open Go.RowKit Go.Conc Go.Conc.Lib Go.Mw Go.Mc Go.Bi
open Go.ConcN (WgLive Has AtR0)
open Pl
open Zn (ext low kk Gr K0 Nx Full tp WPs Zf)
open To (at_)
set_option linter.unusedSectionVars false
variable[Go.ConcR.Payload]
structure Ph(w:World)(Sh:Nat->Prop)(Cb fb rb n fc mb sx sb ic c1 c2:Nat)(ids:List Int)(bss:List (List UInt8))(DB:Nat->Prop):Prop where
 W:WPs zone Sh w
 gl:Tryz.prog.globals.size<=w.heap.size
 hn:n<2147483648/\n<=fc/\n<=c1/\(0<n->n<=c2)
 fbh:w.heap[fb]?=some (.cells #[.slice (some ⟨rb,0,none⟩) n fc] 128)
 DBfb:DB fb
 hDB:∀b,DB b->Tryz.prog.globals.size<=b/\b<w.heap.size/\b≠Cb/\¬Sh b/\∃c e fr,w.heap[b]?=some (.cells c e fr)/\∀v∈c,Plain DB v
 files:∀i,i<n->∃v,w.cell? ⟨rb,i,none⟩=some v/\Bytes w v (bss.getD i [])/\(bss.getD i []).length<=1099511627776
 hmb:mb<w.heap.size/\mb≠Cb/\¬Sh mb/\(0<n->w.cell? ⟨mb,1,none⟩=some (.slice (some ⟨ic,0,none⟩) n c2))
 hsx:sx<w.heap.size/\sx≠Cb/\¬Sh sx/\w.cell? ⟨sx,0,none⟩=some (.pointer (some ⟨sb,0,none⟩))
 hsb:sb<w.heap.size/\sb≠Cb/\¬Sh sb/\w.cell? ⟨sb,3,none⟩=some (.slice (some ⟨Cb,0,none⟩) n c1)
 hic:0<n->ic<w.heap.size/\ic≠Cb/\¬Sh ic/\∀i,i<n->w.cell? ⟨ic,i,none⟩=some (.int .i64 (ids.getD i 0))
 hcb:¬Sh Cb/\∃cs0:Array Value,w.heap[Cb]?=some (.cells cs0 154)/\cs0.size=2*n
def a5p(w:World)(Sh:Nat->Prop)(Cb:Nat)(ids:List Int)(bss:List (List UInt8))(i bx:Nat)(O:Nat->Prop)(w':World):Prop:=
 w'.cell? ⟨Cb,2*i,none⟩=some (.int .i64 (ids.getD i 0))/\
 (∃u,w'.cell? ⟨Cb,2*i+1,none⟩=some u/\a2M w' 160 7 u (P7 (bss.getD i [])).length ((P7 (bss.getD i [])).flatMap (O5 i))/\∀g,u.ownBlock=some g->O g)/\
 (∀b,O b->∃o,w'.heap[b]?=some o/\Zn.ObjP {zone with D:=fun b=>(b<w.heap.size/\b≠Cb/\¬Sh b)\/b=bx\/O b} o)/\w.heap.size+2<=bx/\w'.heap[bx]?=some (.cells #[.int .i64 i] 3)
theorem b0i{w:World}{Sh:Nat->Prop}{Cb:Nat}{ids:List Int}{bss:List (List UInt8)}:∀i bx O(w1 w2:World),w1.heap.size<=w2.heap.size->w2.heap[bx]?=w1.heap[bx]?->(∀b,O b->w2.heap[b]?=w1.heap[b]?)->(∀k,myCell i k->w2.cell? ⟨Cb,k,none⟩=w1.cell? ⟨Cb,k,none⟩)->a5p w Sh Cb ids bss i bx O w1->a5p w Sh Cb ids bss i bx O w2:=by
 rintro i bx O w1 w2 _ h2 h3 h4 ⟨a1,⟨u,a2,a3,a4⟩,a5,a6,a7⟩;exact⟨(h4 _ (.inl rfl)).trans a1,⟨u,(h4 _ (.inr rfl)).trans a2,a3.keep fun g hg=>h3 g (a4 g hg),a4⟩,fun b hb=>let ⟨o,h5,h6⟩:=a5 b hb;⟨o,(h3 b hb).trans h5,h6⟩,a6,h2.trans a7⟩
abbrev c3r:Oper:={dst:=none,op:=.defer {callee:=.value (.func 60),args:=#[.tmp 0],argTypes:=#[149]},type:=0,pos:= "keydir.go:120",after:=#[],guard:=none}
theorem b6M:a1G 0=.seq (.region 0 #[c3r] false) (a1G 1):=by kernel_rfl
theorem b6N:a1G 1=.seq workR1 (a1G 2):=by kernel_rfl
theorem b6O{w:World}{Sh St:Nat->Prop}(hSt:∀b,St b->Sh b){Cb fb rb n fc mb sx sb ic c1 c2:Nat}{ids:List Int}{bss:List (List UInt8)}{DB:Nat->Prop}(h:Ph w Sh Cb fb rb n fc mb sx sb ic c1 c2 ids bss DB){c i b:Nat}{w':World}(hc:0<c)(hi:i<n)(hb:w.heap.size+2<=b)
 (hel0:∀e,e<w.heap.size->e≠Cb->¬St e->w'.heap[e]?=w.heap[e]?)(hbx:w'.heap[b]?=some (.cells #[.int .i64 i] 3))(hal:a0A (mkZ w St Cb fb (.slice (some ⟨rb,0,none⟩) n fc) n (a5p w Sh Cb ids bss)) w')(hcb:a0r (mkZ w St Cb fb (.slice (some ⟨rb,0,none⟩) n fc) n (a5p w Sh Cb ids bss)) w')(hlv:WgLive 149 (w.heap.size+1) w'):
 Works (at_ (mkZ w St Cb fb (.slice (some ⟨rb,0,none⟩) n fc) n (a5p w Sh Cb ids bss)) c) i b (born Tryz.prog (b5A (mkZ w St Cb fb (.slice (some ⟨rb,0,none⟩) n fc) n (a5p w Sh Cb ids bss)) (.pointer (some ⟨mb,0,none⟩)) (.pointer (some ⟨fb,0,none⟩)) (.pointer (some ⟨sx,0,none⟩)) b)) w':=by
 obtain⟨hCS,cs0,hC0,hCs⟩:=h.hcb;have hCl:Cb<w.heap.size:=Bi.lt_of_some hC0;obtain⟨df1,df2,df3,df4,-⟩:=h.hDB fb h.DBfb;have hZ:a0a (at_ (mkZ w St Cb fb (.slice (some ⟨rb,0,none⟩) n fc) n (a5p w Sh Cb ids bss)) c):=b9D (fun b hb=>h.W.sh b (hSt b hb)) hCl (fun hs=>hCS (hSt _ hs)) df2 (fun hs=>df4 (hSt _ hs)) df3 b0i hc;have hL0:(at_ (mkZ w St Cb fb (.slice (some ⟨rb,0,none⟩) n fc) n (a5p w Sh Cb ids bss)) c).L0=w.heap.size+2:=rfl;have hEld:∀e,(e<w.heap.size/\e≠Cb/\¬Sh e)->(at_ (mkZ w St Cb fb (.slice (some ⟨rb,0,none⟩) n fc) n (a5p w Sh Cb ids bss)) c).Eld e:=fun e he=>⟨he.1,he.2.1,fun hs=>he.2.2 (hSt e hs)⟩;have hel:∀e,e<w.heap.size->e≠Cb->¬Sh e->w'.heap[e]?=w.heap[e]?:=fun e h1 h2 h3=>hel0 e h1 h2 fun hs=>h3 (hSt e hs);obtain⟨Z,hZe⟩:∃Z,Z=at_ (mkZ w St Cb fb (.slice (some ⟨rb,0,none⟩) n fc) n (a5p w Sh Cb ids bss)) c:=⟨_,rfl⟩;have zP:Z.P=Tryz.prog:=by rw[hZe];rfl
 have zt:Z.ty=149:=by rw[hZe];rfl
 have zC:(3:TypeId)≠Z.tCb:=by rw[hZe];show(3:Nat)≠154;decide
 have zn:Z.n=n:=by rw[hZe];rfl
 have zCb:Z.Cb=Cb:=by rw[hZe];rfl
 have zWg:Z.Wg=w.heap.size+1:=by rw[hZe];rfl
 have zAl:Z.Al=w.heap.size:=by rw[hZe];rfl
 have ze0:Z.e0=fb:=by rw[hZe];rfl
 have zv0:Z.v0=.slice (some ⟨rb,0,none⟩) n fc:=by rw[hZe];rfl
 have zR:Z.Res=a5p w Sh Cb ids bss:=by rw[hZe];rfl
 have ecall:b5A (mkZ w St Cb fb (.slice (some ⟨rb,0,none⟩) n fc) n (a5p w Sh Cb ids bss)) (.pointer (some ⟨mb,0,none⟩)) (.pointer (some ⟨fb,0,none⟩)) (.pointer (some ⟨sx,0,none⟩)) b =
  {target:=.fn (.func 59) #[.pointer (some ⟨w.heap.size+1,0,none⟩),.pointer (some ⟨b,0,none⟩),.pointer (some ⟨fb,0,none⟩),.pointer (some ⟨mb,0,none⟩),.pointer (some ⟨sx,0,none⟩),.pointer (some ⟨w.heap.size,0,none⟩)],args:=#[]}:=rfl
 rw[ecall];have zal:a0A Z w':=by rw[hZe];exact hal
 have zcb:a0r Z w':=by rw[hZe];exact hcb
 rw[<-hZe] at hZ hL0 hEld⊢;clear hal hcb ecall;clear hZe;have hbl:b<w'.heap.size:=Bi.lt_of_some hbx;have hN0:Nw Z (fun _=>False) w':=fun _ h=>h.elim;unfold Works;refine a1O hN0 rfl (fun w=>by rw[zP];exact born_step _ w) ?_;have e29:(29:Nat) - (#[.pointer (some ⟨w.heap.size+1,0,none⟩),.pointer (some ⟨b,0,none⟩),.pointer (some ⟨fb,0,none⟩),.pointer (some ⟨mb,0,none⟩),.pointer (some ⟨sx,0,none⟩),.pointer (some ⟨w.heap.size,0,none⟩)]:Array Value).size=23:=rfl;rw[e29,b6M];have eT:(#[.pointer (some ⟨w.heap.size+1,0,none⟩),.pointer (some ⟨b,0,none⟩),.pointer (some ⟨fb,0,none⟩),.pointer (some ⟨mb,0,none⟩),.pointer (some ⟨sx,0,none⟩),.pointer (some ⟨w.heap.size,0,none⟩)]:Array Value)++Array.replicate 23 undef=#[.pointer (some ⟨w.heap.size+1,0,none⟩),.pointer (some ⟨b,0,none⟩),.pointer (some ⟨fb,0,none⟩),.pointer (some ⟨mb,0,none⟩),.pointer (some ⟨sx,0,none⟩),.pointer (some ⟨w.heap.size,0,none⟩),undef,undef,undef,undef,undef,undef,undef,undef,undef,undef,undef,undef,undef,undef,undef,undef,undef,undef,undef,undef,undef,undef,undef]:=by
  simp only[Array.replicate_succ,Array.replicate_zero,List.push_toArray,List.append_toArray,List.nil_append,List.cons_append]
 rw[eT];obtain⟨T2,hT2⟩:∃T2:Array Value,T2=#[.pointer (some ⟨w.heap.size+1,0,none⟩),.pointer (some ⟨b,0,none⟩),.pointer (some ⟨fb,0,none⟩),.pointer (some ⟨mb,0,none⟩),.pointer (some ⟨sx,0,none⟩),.pointer (some ⟨w.heap.size,0,none⟩),undef,undef,undef,undef,undef,undef,undef,undef,undef,undef,undef,undef,undef,undef,undef,undef,undef,undef,undef,undef,undef,undef,undef]:=⟨_,rfl⟩;rw[<-hT2];have t0:T2[0]?=some (.pointer (some ⟨w.heap.size+1,0,none⟩)):=by rw[hT2];rfl
 have ea:(#[.tmp 0]:Array Operand).map (Act.eval ⟨T2,[]⟩)=#[.pointer (some ⟨w.heap.size+1,0,none⟩)]:=by
  simp only[List.map_toArray,List.map_cons,List.map_nil];rw[J7 t0]
 refine a1O hN0 rfl (fun _=>stepG_seq) (a1O hN0 rfl (fun _=>stepG_region) ?_);refine a1O hN0 rfl (fun _=>stepG_defer (o:=c3r) rfl (by rfl) (by decide) rfl) (a1O hN0 rfl (fun _=>stepG_region_end) ?_);rw[show Act.put ⟨T2,dcall 60 ((#[.tmp 0]:Array Operand).map (Act.eval ⟨T2,[]⟩))::[]⟩ c3r.dst undef=⟨T2,[dcall 60 #[.pointer (some ⟨w.heap.size+1,0,none⟩)]]⟩ from by rw[ea];rfl];rw[b6N];refine a1O hN0 rfl (fun _=>stepG_seq) ?_;obtain⟨v,hv1,hv2,hv3⟩:=h.files i hi;have hfbc:w.cell? ⟨fb,0,none⟩=some (.slice (some ⟨rb,0,none⟩) n fc):=by simp[World.cell?,h.fbh]
 obtain⟨n1,n2,n3,n4⟩:=h.hn;have hn0:0<n:=by omega
 obtain⟨i1,i2,i3,i4⟩:=h.hic hn0;have key:=c1t (Stop:=At7 Z i b) hZ zP h.W (.pointer (some ⟨w.heap.size+1,0,none⟩)) (.pointer (some ⟨mb,0,none⟩)) (.pointer (some ⟨sx,0,none⟩)) (.pointer (some ⟨w.heap.size,0,none⟩)) [dcall 60 #[.pointer (some ⟨w.heap.size+1,0,none⟩)]]
  (DB:=DB) (fun e he=>by
   obtain⟨d1,d2,d3,d4,d5⟩:=h.hDB e he;exact⟨d1,d2,hEld e ⟨d2,d3,d4⟩,hel e d2 d3 d4,d5⟩) h.DBfb df4 hfbc ⟨hi,n2,n1⟩ hv1 hv2 hv3 hbx ⟨by omega,by omega⟩ (by omega) (by omega) h.gl ?_
 ·rw[<-hT2] at key;exact key
 ·intro O u V2 x7 x8 x9 x10 x11 x12 w3 hN hOb hK hrow hrb hobj;obtain⟨ua,uc,rfl⟩:=hrow.slice;have hh:∀e,e<w.heap.size->e≠Cb->¬Sh e->w3.heap[e]?=w.heap[e]?:=fun e a1 a2 a3=>(hK.eld e (hEld e ⟨a1,a2,a3⟩)).trans (hel e a1 a2 a3);have hcl:∀e k,e<w.heap.size->e≠Cb->¬Sh e->w3.cell? ⟨e,k,none⟩=w.cell? ⟨e,k,none⟩:=fun e k a1 a2 a3=>ConcN.cell_of_block (hh e a1 a2 a3) k;obtain⟨m1,m2,m3,m4⟩:=h.hmb;obtain⟨s1,s2,s3,s4⟩:=h.hsx;obtain⟨t1,t2,t3,t4⟩:=h.hsb;have hw:HW Z i b O w3 mb sx sb ic c1 c2 (ids.getD i 0) w3:=by
   refine⟨hN,Nat.le_refl _,fun _ _=>rfl,⟨hEld _ ⟨m1,m2,m3⟩,hEld _ ⟨s1,s2,s3⟩,hEld _ ⟨t1,t2,t3⟩,hEld _ ⟨i1,i2,i3⟩,by rw[ze0];exact hEld _ ⟨df2,df3,df4⟩⟩,by rw[zn];exact⟨hi,n3,n4 hn0,n1⟩,hK.box.trans hbx,(hcl _ _ s1 s2 s3).trans s4,?_,?_,(hcl _ _ i1 i2 i3).trans (i4 i hi),hK.cb zcb,hK.al zal,hK.live (by rw[zt,zWg];exact hlv),?_⟩
   ·rw[zCb,zn];exact(hcl _ _ t1 t2 t3).trans t4
   ·rw[zn];exact(hcl _ _ m1 m2 m3).trans (m4 hn0)
   ·rw[ze0,zv0];exact(hcl _ _ df2 df3 df4).trans hfbc
  have hrest:=b6L hZ zP zt zC (by rw[zAl];omega) w3 V2 x7 x8 x9 x10 x11 x12 mb sx sb ic c1 c2 (ids.getD i 0) ua _ uc (fun w4 hF=>by
   rw[zR];refine⟨?_,⟨_,?_,hrow.keep fun g hg=>hF.hw.own g (hrb g hg),hrb⟩,fun e he=>?_,hb,hF.hw.box⟩
   ·rw[<-zCb];exact hF.c0
   ·rw[<-zCb];exact hF.c1
   ·obtain⟨o,o1,o2⟩:=hobj e he;have hle:Zn.Le {zone with D:=fun b'=>DB b'\/b'=b\/O b'} {zone with D:=fun b'=>(b'<w.heap.size/\b'≠Cb/\¬Sh b')\/b'=b\/O b'}:=by
     refine⟨rfl,rfl,rfl,?_⟩;rintro q (hq|hq)
     ·obtain⟨_,d2,d3,d4,_⟩:=h.hDB q hq;exact .inl ⟨d2,d3,d4⟩
     ·exact .inr hq
    exact⟨o,(hF.hw.own e he).trans o1,o2.mono hle⟩) w3 hw
  rw[zWg,zAl] at hrest;exact hrest
end
section
open Go.RowKit Go.Lib Go.Maps Dk Pl
open Zn (tp)
structure Chh(F:Nat->Prop)(w w':World):Prop where
 os:w'.os=w.os
 output:w'.output=w.output
 size:w.heap.size<=w'.heap.size
 block:∀b,b<w.heap.size->¬F b->w'.heap[b]?=w.heap[b]?
theorem Chh.trans{F:Nat->Prop}{a b c:World}(h:Chh F a b)(k:Chh F b c):Chh F a c:=
 ⟨k.os.trans h.os,k.output.trans h.output,Nat.le_trans h.size k.size,fun x hx hF=>(k.block x (Nat.lt_of_lt_of_le hx h.size) hF).trans (h.block x hx hF)⟩
theorem Chh.of{F G:Nat->Prop}{w w':World}{τ τ':Nat->Question->Nat}{p p':Nat}(h:Chg F G (tp w τ p) (tp w' τ' p')):Chh F w w':=⟨h.os,h.output,h.size,h.block⟩
theorem Chh.ext{F:Nat->Prop}{w w':World}{τ τ':Nat->Question->Nat}{p p':Nat}(h:Ext (tp w τ p) (tp w' τ' p')):Chh F w w':=⟨h.os,h.output,h.size,fun b hb _=>h.block b hb⟩
theorem Chh.less{F G:Nat->Prop}{w w':World}(h:Chh G w w')(hG:∀b,b<w.heap.size->G b->F b):Chh F w w':=⟨h.os,h.output,h.size,fun b hb hF=>h.block b hb fun hg=>hF (hG b hb hg)⟩
theorem Held.chh{w w':World}{F:Nat->Prop}{Φ:World->Prop}(h:Held w F Φ)(c:Chh F w w')(hl:∀b,F b->b<w.heap.size):Held w' F Φ:=by
 obtain⟨S,h1,h2⟩:=h;exact⟨S,fun b hb=>⟨Nat.lt_of_lt_of_le (h1 b hb).1 c.size,(h1 b hb).2⟩,fun w'' hw=>h2 w'' fun b hb=>(hw b hb).trans (c.block b (h1 b hb).1 (h1 b hb).2)⟩
theorem A8.of_tp{w:World}{τ:Nat->Question->Nat}{p:Nat}{F:Nat->Prop}{a:Nat}{d:D}(h:A8 (tp w τ p) F a d):A8 w F a d:=h.frame (fun _ _=>rfl) (Nat.le_refl _)
theorem A8.to_tp{w:World}{τ:Nat->Question->Nat}{p:Nat}{F:Nat->Prop}{a:Nat}{d:D}(h:A8 w F a d):A8 (tp w τ p) F a d:=h.frame (fun _ _=>rfl) (Nat.le_refl _)
theorem b6u:I5 0=.seq (N7 0) (I5 1):=by kernel_rfl
theorem b6v:I5 1=.seq (N7 1) (I5 2):=by kernel_rfl
theorem b6w:I5 2=.seq (N7 2) (I5 3):=by kernel_rfl
theorem b6x:I5 3=.seq (N7 3) (I5 4):=by kernel_rfl
theorem b6y:I5 4=.seq (N7 4) (I5 5):=by kernel_rfl
theorem b6z:I5 5=.seq (N7 5) (I5 6):=by kernel_rfl
theorem b3P:I5 10=.seq (N7 10) (I5 11):=by kernel_rfl
theorem b3Q:I5 11=.seq (N7 11) (I5 12):=by kernel_rfl
theorem b3R:I5 12=.seq (N7 12) (I5 13):=by kernel_rfl
noncomputable def V9:List Code:=[N7 0,N7 1,N7 2,N7 3,N7 4,N7 5,N7 10,N7 11,N7 12,I5 13]
theorem b3S:V9.all (Zn.cOK zb)=true:=by kernel_rfl
theorem b0f{c:Code}(h:c∈V9):Zn.CodeP zone c:=Zn.cOK.sound (List.all_eq_true.1 b3S c h)
def fX(k:Tmp):Bool:=decide (k=11)||decide (k=12)||(decide (15<=k)&&decide (k<=18))||decide (79<=k)
theorem b6A:([N7 10,N7 11,N7 12,I5 13].all (Zn.useB fX))=true:=by kernel_rfl
theorem b80{c:Code}(h:c∈[N7 10,N7 11,N7 12,I5 13]):Zn.CodeU (fun k=>fX k=true) c:=Zn.useB.sound (List.all_eq_true.1 b6A c h)
end
section
open Go.RowKit Go.Lib Go.Maps Dk Pl
open Zn (tp Full)
open To (wpT wpT_lone H8 Iv a7h)
set_option linter.unusedSectionVars false
def QO2(a mb:Nat)(w:World):Exit->Act->World->Prop
 | .normal,a',w'=>a'.defers=[]/\a'.tmps.size=118/\a'.tmps[0]?=some (y8 a)/\a'.tmps[4]?=some (.pointer (some ⟨mb,0,none⟩))/\w'=w
 | _,_,_=>False
theorem t2{a mb:Nat}(T:Array Value)(hT:T.size=118)(h0:T[0]?=some (y8 a))(h4:T[4]?=some (.pointer (some ⟨mb,0,none⟩)))(h5:T[5]?=some (.nilIface))(w:World):(N7 2).wp Tryz.prog (QO2 a mb w) ⟨T,[]⟩ w:=by
 rw[U0 (U0 (U0 (a1Y T hT) (k:=0) (G9 h0)) (k:=4) (G9 h4)) (k:=5) (G9 h5)];generalize (fun k=>T.getD k undef)=x;clear hT h0 h4 h5;unfold N7 I5;simp only[Code.behind,Code.head,Tryz.f14,Option.getD_some,a5Y,up,reduceIte,Nat.reduceEqDiff];go_wp2;exact⟨rfl,rfl,rfl,rfl,rfl⟩
def c4z(y:Value)(w:World):Exit->Act->World->Prop
 | .ret,a',w'=>a'.defers=[]/\a'.tmps[2]?=some (.pointer none)/\a'.tmps[3]?=some y/\w'=w
 | _,_,_=>False
theorem t2e{t:TypeId}{v:Value}(T:Array Value)(hT:T.size=118)(h5:T[5]?=some (.iface t v))(w:World):(N7 2).wp Tryz.prog (c4z (.iface t v) w) ⟨T,[]⟩ w:=by
 rw[U0 (a1Y T hT) (k:=5) (G9 h5)];generalize (fun k=>T.getD k undef)=x;clear hT h5;unfold N7 I5;simp only[Code.behind,Code.head,Tryz.f14,Option.getD_some,a5Y,up,reduceIte,Nat.reduceEqDiff];go_wp2;exact⟨rfl,rfl,rfl,rfl⟩
theorem err_iface{w:World}{y:Value}{er:Er}(h:ErrAt w y er)(he:er≠.ok):∃t v,y=.iface t v:=by
 cases er with
 | ok=>exact absurd rfl he
 | num n=>exact⟨_,_,h⟩
 | file n m=>
  obtain⟨b,rfl,_⟩:=h;exact⟨_,_,rfl⟩
def Dk.D.kopen(d:D):Option (Nat×List Int×List (List UInt8))×Er×D:=
 match d.readMan with
 | (none,er,d1)=>(none,er,d1)
 | (some (g,ids),_,d1)=>match D.opensAcc ids d1 [] with
  | (bss,.ok,d2)=>(some (g,ids,bss),.ok,d2)
  | (_,er,d2)=>(none,er,d2)
set_option linter.unusedSectionVars false
variable[To.Lo]{Sh:Nat->Prop}{X:Tmp->Prop}{fn:FuncId}{Q:Exit->Act->World->(Nat->Prop)->Prop}{a:Act}{w:World}
theorem piece{c:Code}(Q0:World->Exit->Act->World->Prop)(hI:Iv zone Sh X a w)(hc:Zn.CodeP zone c)(hu:Zn.CodeU X c)(h:∀τ p,c.wp Tryz.prog (Q0 (tp w τ p)) a (tp w τ p))
 (hQ:∀e a' w' τ p τ' p',Q0 (tp w τ p) e a' (tp w' τ' p')->(e=.normal\/e=.ret)/\(Iv zone Sh X a' w'->w.heap.size<=w'.heap.size->Q e a' w' Sh)):wpT Tryz.prog fn c Q a w Sh:=
 wpT_lone (Q0:=fun e a' w'=>∃τ p,Q0 (tp w τ p) e a' w') pqk hI hc hu (fun τ p=>Code.wp_mono (fun _ _ _ q=>⟨τ,p,q⟩) (h τ p)) fun e a' w' τ' p'⟨τ,p,q⟩=>hQ e a' w' τ p τ' p' q
end
section
open Go.RowKit Go.Lib Go.Maps Dk
namespace Dk
def D.swept(d:D)(ids:List Int)(k:Nat):D:=(d.removeAll ((d.list.take k).filter fun n=>!a2K ids n)).2
structure Sw(d:D)(ids:List Int)(k:Nat):Prop where
 ok:d.removeAll ((d.list.take k).filter fun n=>!a2K ids n)=(.ok,d.swept ids k)
 now:(d.swept ids k).now=D5 d.now (((d.list.take k).filter fun n=>!a2K ids n).map fun n=>(n,none))
 moves:(d.swept ids k).moves=d.moves++((d.list.take k).filter fun n=>!a2K ids n).map fun n=>[(n,none)]
 calm:(d.swept ids k).Calm
theorem D.Calm.sw{d:D}(h:d.Calm)(hn:(d.now.map (·.1)).Nodup)(ids:List Int)(k:Nat):Sw d ids k:=by
 have hr:=h.removeAll ((d.list.take k).filter fun n=>!a2K ids n) (((a8b hn).sublist (List.take_sublist _ _)).filter _) (fun n hm=>by
  have:=List.mem_of_mem_take (List.mem_filter.1 hm).1;rwa [a2J] at this)
 have e:d.swept ids k={d with now:=D5 d.now (((d.list.take k).filter fun n=>!a2K ids n).map fun n=>(n,none)),moves:=d.moves++((d.list.take k).filter fun n=>!a2K ids n).map fun n=>[(n,none)]}:=by
  unfold D.swept;rw[hr]
 exact⟨by rw[hr,e],by rw[e],by rw[e],by rw[e];exact h⟩
theorem b6H{d:D}(h:d.Calm)(hnd:(d.now.map (·.1)).Nodup)(ids:List Int):d.sweep ids=(d.swept ids d.list.length).syncDir:=by
 have s:=h.sw hnd ids d.list.length;have h1:=s.ok;rw[List.take_length] at h1;unfold D.sweep;rw[h1]
end Dk
end
section
open Go.RowKit Go.Lib Go.Maps Dk Pl
end
section
open Go.RowKit Go.Lib Go.Maps Dk Pl
theorem b2x{l:List UInt8}{g:Nat}{ids:List Int}(h:readMan l=some (g,ids)):b0z ids:=by
 unfold readMan at h;split at h
 ·rename_i hg;injection h with h;injection h with _ h;unfold a04 at hg;simp only[Bool.and_eq_true] at hg;have hi:=hg.2.2.2;rw[h] at hi;unfold a0b at hi;simp only[Bool.and_eq_true,decide_eq_true_eq,List.all_eq_true] at hi;refine⟨hi.1,fun x hx=>?_⟩;have:=hi.2.1 x hx;unfold inRange at this;simpa using this
 ·cases h
end
end Go.Proofs.YtgpbhjjajpbeeaaGreatDoor
