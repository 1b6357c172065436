/- A part of what the last file proves. -/
import Derived.Test.YtgpbhjjajpbeeaaGreatDoorO11
import Derived.Lib.SliceRun
set_option linter.all false
set_option maxRecDepth 100000
set_option maxHeartbeats 1600000
open Go.Proofs.Tryz
namespace Go.Proofs.YtgpbhjjajpbeeaaGreatDoor
section
open Go.RowKit Go.Lib Go.Maps Dk Go.Extern
theorem bu(h:Value)(w:World):(Go.method 495 275 (.agg #[h]) "Comparable").run prog w=.ok (260,.agg #[h]) w:=by kernel_rfl
theorem methodUnwrap(h:Value)(w:World):(Go.method 495 132 h "Unwrap").run prog w=.ok (253,h) w:=by kernel_rfl
theorem tL(w:World):((ReflectliteType.method λt=>do Rtype.noPackHeld "Comparable" t;Functor.map (λa:TypeInfo=>Value.bool a.comparable) (typeInfo t)) #[.agg #[.pointer (some ⟨7,37,none⟩)]]).run prog w=.ok (.bool true) w:=by kernel_rfl
theorem YW(v:Value)(w:World):(binOp .eql 34 .nilIface (.iface 37 v)).run prog w=.ok (.bool false) w:=by kernel_rfl
theorem tI(p:Option Addr)(n:Int)(w:World):(binOp .eql 34 (.iface 132 (.pointer p)) (.iface 37 (.int .i64 n))).run prog w=.ok (.bool false) w:=by kernel_rfl
theorem YV(m n:Int)(w:World):(binOp .eql 34 (.iface 37 (.int .i64 m)) (.iface 37 (.int .i64 n))).run prog w=.ok (.bool (m==n)) w:=by kernel_rfl
theorem is_nil(n:Int)(w:World):Calls prog 57 #[.nilIface,Z5 n] w λe w'=>e=.returned (.bool false)/\w'=w:=by
 unfold Z5;have q1:=YW;have q2:=YV;go_enter func57,ntmps57
 go_wp2;go_ret;exact⟨rfl,rfl⟩
theorem Su(m n:Int)(w:World):Calls prog 57 #[Z5 m,Z5 n] w λe w'=>e=.returned (.bool (decide (m=n)))/\w'=w:=by
 unfold Z5;have h7:=@run_callFunc_extern prog 97 _ ReflectliteType.typeOf func97 (by kernel_rfl) (by kernel_rfl) (by kernel_rfl) (by kernel_rfl);have h8:=@run_callFunc_extern prog 260 _ (ReflectliteType.method λt=>do Rtype.noPackHeld "Comparable" t;pure (.bool (<-typeInfo t).comparable)) func260 (by kernel_rfl) (by kernel_rfl) (by kernel_rfl) (by kernel_rfl);have tO:=Uk;have mC:=bu;have cE:=tL;have mU:=methodUnwrap;have q1:=YW;have q2:=YV;have q3:=tI;have lO:=run_typeAssert_lacksB (P:=prog) (z:=.nilIface) (t:=37) (asserted:=277) rfl (by kernel_rfl) (by kernel_rfl);have lE:=run_typeAssert_lacksB (P:=prog) (z:=.nilIface) (t:=37) (asserted:=280) rfl (by kernel_rfl) (by kernel_rfl);have lB:=run_typeAssert_lacksB (P:=prog) (z:=.nilIface) (t:=37) (asserted:=281) rfl (by kernel_rfl) (by kernel_rfl);have ln:=run_typeAssert_lacksB (P:=prog) (z:=.nilIface) (t:=132) (asserted:=277) rfl (by kernel_rfl) (by kernel_rfl);have lm:=run_typeAssert_hasB (P:=prog) (t:=132) (asserted:=280) rfl (by kernel_rfl);by_cases hmn:m=n
 ·have hb:(m==n)=true:=dP.2 hmn;have hd:decide (m=n)=true:=aG hmn;have HD:=ah hd;clear hd hmn;go_enter func57,ntmps57
  go_wp2;refine wp_loop_rounds 1 ?_;rw[rounds_succ];go_wp2;go_ret;exact⟨by rw[HD.out];rfl,rfl⟩
 ·have hb:(m==n)=false:=bn.2 hmn;have hd:decide (m=n)=false:=aI hmn;have HD:=ah hd;clear hd hmn;go_enter func57,ntmps57
  go_wp2;refine wp_loop_rounds 1 ?_;rw[rounds_succ];go_wp2;go_ret;exact⟨by rw[HD.out];rfl,rfl⟩
theorem VC(b:Nat)(name:Nm)(m n:Int)(w:World)(hb:o8 w b 134 #[bC name,.int .i64 m]):
 Calls prog 57 #[.iface 132 (.pointer (some ⟨b,0,none⟩)),Z5 n] w λe w'=>e=.returned (.bool (decide (m=n)))/\w'=w:=by
 unfold Z5;have c1:=(hb.cell 1).trans (show _=some (Value.int .i64 m) from rfl);clear hb;have h7:=@run_callFunc_extern prog 97 _ ReflectliteType.typeOf func97 (by kernel_rfl) (by kernel_rfl) (by kernel_rfl) (by kernel_rfl);have h8:=@run_callFunc_extern prog 260 _ (ReflectliteType.method λt=>do Rtype.noPackHeld "Comparable" t;pure (.bool (<-typeInfo t).comparable)) func260 (by kernel_rfl) (by kernel_rfl) (by kernel_rfl) (by kernel_rfl);have tO:=Uk;have mC:=bu;have cE:=tL;have mU:=methodUnwrap;have q1:=YW;have q2:=YV;have q3:=tI;have lO:=run_typeAssert_lacksB (P:=prog) (z:=.nilIface) (t:=37) (asserted:=277) rfl (by kernel_rfl) (by kernel_rfl);have lE:=run_typeAssert_lacksB (P:=prog) (z:=.nilIface) (t:=37) (asserted:=280) rfl (by kernel_rfl) (by kernel_rfl);have lB:=run_typeAssert_lacksB (P:=prog) (z:=.nilIface) (t:=37) (asserted:=281) rfl (by kernel_rfl) (by kernel_rfl);have ln:=run_typeAssert_lacksB (P:=prog) (z:=.nilIface) (t:=132) (asserted:=277) rfl (by kernel_rfl) (by kernel_rfl);have lm:=run_typeAssert_hasB (P:=prog) (t:=132) (asserted:=280) rfl (by kernel_rfl);by_cases hmn:m=n
 ·have hb:(m==n)=true:=dP.2 hmn;have hd:decide (m=n)=true:=aG hmn;have HD:=ah hd;clear hd hmn;go_enter func57,ntmps57
  go_wp2;refine wp_loop_rounds 2 ?_;rw[rounds_succ];go_wp2;all_goals (try rw[rounds_succ])
  all_goals go_wp2
  go_ret;exact⟨by rw[HD.out];rfl,rfl⟩
 ·have hb:(m==n)=false:=bn.2 hmn;have hd:decide (m=n)=false:=aI hmn;have HD:=ah hd;clear hd hmn;go_enter func57,ntmps57
  go_wp2;refine wp_loop_rounds 2 ?_;rw[rounds_succ];go_wp2;all_goals (try rw[rounds_succ])
  all_goals go_wp2
  go_ret;exact⟨by rw[HD.out];rfl,rfl⟩
theorem tG(er:Er)(v:Value)(n:Int)(w:World)(h:ErrAt w v er)(hn:n≠0):Calls prog 57 #[v,Z5 n] w λe w'=>e=.returned (.bool (decide (er.code=n)))/\w'=w:=by
 cases er with
 | ok=>
  obtain rfl:v=.nilIface:=h;have e:decide (Er.code .ok=n)=false:=aI (λh=>hn h.symm)
  rw[e];exact is_nil n w
 | num m=>
  obtain rfl:v=Z5 m:=h
  exact Su m n w
 | file m name=>
  obtain⟨b,rfl,hb⟩:=h;exact VC b name m n w hb
end
section
open Go.RowKit Go.Lib Go.Maps Dk
theorem rT{γ:Type}(f:γ->List Value)(hf:∀x,(f x).length=2):∀(l:List γ)(i:Nat)(x:γ),l[i]?=some x->∀j,j<2->(l.flatMap f)[2*i+j]?=(f x)[j]?:=by
 intro l
 induction l with
 | nil=>intro i x h;simp at h
 | cons y l ih=>
  intro i x h j hj;rw[iW]
  cases i with
  | zero=>
   simp at h;subst h
   rw[bH (by rw[hf];omega)];simp
  | succ i=>
   simp at h;rw[bF (by rw[hf];omega),hf,show 2*(i+1)+j - 2=2*i+j by omega];exact ih i x h j hj
theorem oH.cells{w:World}{g:Nat}{l:List Mv}(h:oH w g l){i:Nat}{m:Mv}(hi:l[i]?=some m):w.cell? ⟨g,i*2,none⟩=some (bC m.1)/\w.cell? ⟨g,i*2+1,none⟩=some (tY m.2):=by
 have e0:=rT jT (λ_=>rfl) l i m hi 0 (by omega);have e1:=rT jT (λ_=>rfl) l i m hi 1 (by omega);unfold oH at h;refine⟨?_,?_⟩
 ·rw[h.cell,iU,show i*2=2*i+0 by omega,e0];rfl
 ·rw[h.cell,iU,show i*2+1=2*i+1 by omega,e1];rfl
def xj(r:Nat)(l:List (Nm×Nat))(ms:List Mv)(w:World)(e:Ending)(w':World):Prop:=
 e=.returned (.tuple #[])/\xA w' r (D6 l ms)/\fA (λb=>b=r) (λb=>b=r) w w'
theorem set_any(r g:Nat)(l:List (Nm×Nat))(ms:List Mv)(w:World)(h:xA w r l)(hg:oH w g ms)(hms:∀m∈ms,m.1.length<=maxLen)(hlen:ms.length<=1000000):
 Calls prog 80 #[.map (some r),oQ g ms] w (xj r l ms w):=by
 have H:=ah h;have HG:=ah hg;have HM:=ah hms;clear h hg hms;have hgr:r≠g:=by
  rintro rfl;obtain⟨es,c,h1,_⟩:=H.out;have:=HG.out;unfold oH o8 at this;rw[h1] at this;cases this
 unfold oQ;go_enter func80,ntmps80
 go_wp2;go_loopw [8] (λi wr=>∃k:Nat,k<=ms.length/\i=.int .i64 k/\xA wr r (D6 l (ms.take k))/\fA (λb=>b=r) (λb=>b=r) w wr) (λi _=>ms.length - (intOf i).toNat)
 case atStart=>exact⟨0,bU _,rfl,H.out,fA.refl _ w⟩
 case round=>
  obtain⟨k,hk,rfl,hN,hC⟩:=hrel;by_cases hlt:k<ms.length
  ·have hgk:wr.heap[g]?=w.heap[g]?:=hC.block g (lt_of_block HG.out) (bP hgr);have pC:oH wr g ms:=hgk.trans HG.out;obtain⟨m,hm⟩:∃m,ms[k]?=some m:=⟨_,au hlt⟩;obtain⟨x0,x1⟩:=pC.cells hm;have hml:=HM.out m (aJ hm);have htk:ms.take (k+1)=ms.take k++[m]:=by rw[dW,hm];rfl
   have HT:=ah htk;have HN:=ah hN;have HC:=ah hC;clear hgk pC htk hN hC;obtain⟨nm,fo⟩:=m
   cases fo with
   | none=>
    simp only[tY] at x1;have hN1:xA (wr.alloc (.cells #[bC nm,.pointer none] 251)) r (D6 l (ms.take k)):=HN.out.ext ((Ext.refl wr).new _);obtain⟨w2,hrun,BN,hO2⟩:=hN1.drop EH Ag underlying171 (Et hml) 0;have Dn:=ah BN;have RD:=ah hO2;clear hN1 BN hO2;unfold bC at x0 hrun RD;go_wp2;go_roundw
    case rel=>
     refine⟨k+1,by omega,by go_num,?_,?_⟩
     ·rw[HT.out,ab];exact Dn.out
     ·exact(HC.out.trans (fA.ext ((Ext.refl wr).new _))).trans (fA.off RD.out rfl)
    case measure=>simp[intOf];omega
   | some f=>
    simp only[tY] at x1;have hN1:xA (wr.alloc (.cells #[bC nm,o7 f] 251)) r (D6 l (ms.take k)):=HN.out.ext ((Ext.refl wr).new _);obtain⟨w2,hrun,BN,hO2⟩:=hN1.store EH Ag underlying171 (Et hml) f;have Dn:=ah BN;have RD:=ah hO2;clear hN1 BN hO2;unfold o7 at x1;unfold bC at x0;unfold bC o7 at hrun RD;go_wp2;go_roundw
    case rel=>
     refine⟨k+1,by omega,by go_num,?_,?_⟩
     ·rw[HT.out,ab];exact Dn.out
     ·exact(HC.out.trans (fA.ext ((Ext.refl wr).new _))).trans (fA.off RD.out rfl)
    case measure=>simp[intOf];omega
  ·obtain rfl:k=ms.length:=by omega
   rw[bG] at hN;go_wp2;go_end0
   exact⟨rfl,hN,hC⟩
end
section
open Go.RowKit Go.Lib Go.Maps Dk
theorem zB{w:World}{e1 e2:TypeId}{s1 s2 n1 n2 B1 B2:Nat}{v1 v2:Value}{x1 x2:List Value}(h1:w.ownsRow B1 e1 s1 v1 n1 x1)(h2:w.ownsRow B2 e2 s2 v2 n2 x2)(he:e1≠e2){b:Nat}(hb:v1.ownBlock=some b):v2.ownBlock≠some b:=by
 intro hb2;rcases h1.2 with⟨rfl,_⟩|⟨g,cap,cur,rfl,_,hh,_⟩
 ·cases hb
 ·simp[Value.ownBlock] at hb;subst hb;rcases h2.2 with⟨rfl,_⟩|⟨g',cap',cur',rfl,_,hh',_⟩
  ·cases hb2
  ·simp[Value.ownBlock] at hb2;subst hb2;rw[hh] at hh';injection hh' with hh';injection hh' with _ hh' _;exact he hh'
section
variable{w w':World}{F:Nat->Prop}{a m1 m2:Nat}{mv:Value}{gs:List Nat}{dv:Nat->Value}{d:D}
theorem bQ.now'(h:bQ w F a m1 m2 mv gs dv d)(hk:∀b,b<w.heap.size->b≠m1->w'.heap[b]?=w.heap[b]?)(hs:w.heap.size<=w'.heap.size){l:List (Nm×Nat)}(hN:xA w' m1 l)(hl:∀p∈l,p.2∈d.ids):
 bQ w' F a m1 m2 mv gs dv {d with now:=l} where
 box:=(hk a (h.low a h.fa) (bP (h.iF h.box).1)).trans h.box
 now:=hN
 safe:=h.safe.block (hk _ (h.low _ h.fm.2) (bP h.ne))
 ne:=h.ne
 rows:=⟨h.rows.1,λi g l hg hl=>(hk g (h.low g (h.fg g (aJ hg))) (bP (h.iF (h.rows.2 i g l hg hl)).1)).trans (h.rows.2 i g l hg hl)⟩
 outer:=iV.row h.outer w' λb hb=>hk b (h.low b (h.fo b hb)) (λe=>Q8 h.outer h.now (e▸hb))
 kJ:=h.kJ.keep λb hb=>hk b (h.low b (h.fo b hb)) (λe=>Q8 h.outer h.now (e▸hb))
 flat:=λx hx=>(h.flat x hx).keep λb hb=>hk b (h.low b ((h.fx x hx).2 b hb)) (λe=>Q8 (h.file x hx).2 h.now (e▸hb))
 file:=λx hx=>⟨(hk x (h.low x (h.fx x hx).1) (bP (h.iF (h.file x hx).1).1)).trans (h.file x hx).1,iV.row (h.file x hx).2 w' λb hb=>hk b (h.low b ((h.fx x hx).2 b hb)) (λe=>Q8 (h.file x hx).2 h.now (e▸hb))⟩
 apart:=h.apart
 fa:=h.fa
 fm:=h.fm
 fg:=h.fg
 fo:=h.fo
 fx:=h.fx
 low:=λb hb=>ak (h.low b hb) hs
 wf:=⟨hl,h.wf.safe,h.wf.moves,h.wf.part,h.wf.ids⟩
 num:=h.num
theorem bQ.Lc(h:bQ w F a m1 m2 mv gs dv d)(hk:∀b,b<w.heap.size->b≠m2->w'.heap[b]?=w.heap[b]?)(hs:w.heap.size<=w'.heap.size){l:List (Nm×Nat)}(hN:xA w' m2 l)(hl:∀p∈l,p.2∈d.ids):
 bQ w' F a m1 m2 mv gs dv {d with safe:=l} where
 box:=(hk a (h.low a h.fa) (bP (h.iF h.box).2)).trans h.box
 now:=h.now.block (hk _ (h.low _ h.fm.1) h.ne)
 safe:=hN
 ne:=h.ne
 rows:=⟨h.rows.1,λi g l hg hl=>(hk g (h.low g (h.fg g (aJ hg))) (bP (h.iF (h.rows.2 i g l hg hl)).2)).trans (h.rows.2 i g l hg hl)⟩
 outer:=iV.row h.outer w' λb hb=>hk b (h.low b (h.fo b hb)) (λe=>Q8 h.outer h.safe (e▸hb))
 kJ:=h.kJ.keep λb hb=>hk b (h.low b (h.fo b hb)) (λe=>Q8 h.outer h.safe (e▸hb))
 flat:=λx hx=>(h.flat x hx).keep λb hb=>hk b (h.low b ((h.fx x hx).2 b hb)) (λe=>Q8 (h.file x hx).2 h.safe (e▸hb))
 file:=λx hx=>⟨(hk x (h.low x (h.fx x hx).1) (bP (h.iF (h.file x hx).1).2)).trans (h.file x hx).1,iV.row (h.file x hx).2 w' λb hb=>hk b (h.low b ((h.fx x hx).2 b hb)) (λe=>Q8 (h.file x hx).2 h.safe (e▸hb))⟩
 apart:=h.apart
 fa:=h.fa
 fm:=h.fm
 fg:=h.fg
 fo:=h.fo
 fx:=h.fx
 low:=λb hb=>ak (h.low b hb) hs
 wf:=⟨h.wf.now,hl,h.wf.moves,h.wf.part,h.wf.ids⟩
 num:=h.num
theorem bQ.addNode(h:bQ w F a m1 m2 mv gs dv d){x:Nat}(hx:o8 w x 176 #[.slice none 0 0,.int .i64 0])(hF:F x)(hn:x∉d.ids):
 bQ w F a m1 m2 mv gs (λi=>if i=x then .slice none 0 0 else dv i) {d with ids:=d.ids++[x],node:=upd d.node x ⟨[],0⟩}:=by
 have hne:∀y∈d.ids,y≠x:=λy hy e=>hn (e▸hy);exact{
  box:=h.box
  now:=h.now
  safe:=h.safe
  ne:=h.ne
  rows:=h.rows
  outer:=h.outer
  kJ:=h.kJ
  flat:=by
   intro y hy;rcases aU.1 hy with hy|hy
   ·have e:=hne y hy;simp only[if_neg e];exact h.flat y hy
   ·simp at hy;subst hy;simp only[if_true];exact ug.nil _ _ _
  file:=by
   intro y hy;rcases aU.1 hy with hy|hy
   ·have e:=hne y hy;simp only[upd,if_neg e];exact h.file y hy
   ·simp at hy;subst hy;simp only[upd,if_true];exact⟨hx,⟨rfl,Or.inl ⟨rfl,rfl⟩⟩⟩
  apart:=by
   intro y hy z hz hyz b hb;rcases aU.1 hy with hy|hy
   ·have e:=hne y hy;simp only[if_neg e] at hb;rcases aU.1 hz with hz|hz
    ·have e':=hne z hz;simp only[if_neg e'];exact h.apart y hy z hz hyz b hb
    ·simp at hz;subst hz;simp[Value.ownBlock]
   ·simp at hy;subst hy;simp[Value.ownBlock] at hb
  fa:=h.fa
  fm:=h.fm
  fg:=h.fg
  fo:=h.fo
  fx:=by
   intro y hy;rcases aU.1 hy with hy|hy
   ·have e:=hne y hy;simp only[if_neg e];exact h.fx y hy
   ·simp at hy;subst hy;exact⟨hF,by simp[Value.ownBlock]⟩
  low:=h.low
  wf:=by
   refine⟨λp hp=>aU.2 (.inl (h.wf.now p hp)),λp hp=>aU.2 (.inl (h.wf.safe p hp)),λl hl m hm f hf=>aU.2 (.inl (h.wf.moves l hl m hm f hf)),?_,?_⟩
   ·intro y hy;rcases aU.1 hy with hy|hy
    ·have e:=hne y hy;simp only[upd,if_neg e];exact h.wf.part y hy
    ·simp at hy;subst hy;simp[upd]
   ·show(d.ids++[x]).Nodup;rw[iq];exact⟨h.wf.ids,by simp,λp hp q hq=>by simp at hq;subst hq;exact hne p hp⟩
  num:=h.num}
theorem bQ.Fq(h:bQ w F a m1 m2 mv gs dv d){g:Nat}{ms:List Mv}{w1:World}{mv':Value}{u:List Value}{n:Nat}(hE:Ext w w1)(hg:oH w g ms)(hgrow:w1.grownBy w' mv.ownBlock)(hown:w'.ownsRow 0 187 1 mv' n u)
 (hn:n=d.moves.length+1)(hu:u=((gs.zip d.moves).map λp=>oQ p.1 p.2)++[oQ g ms])(hfg:F g){G:Nat->Prop}(hG:∀b,G b<->F b\/(w.heap.size<=b/\b<w'.heap.size))(hm:∀m∈ms,∀f,m.2=some f->f∈d.ids)
 (hat:∀b,mv'.ownBlock=some b->mv.ownBlock=some b\/w.heap.size<=b)(hfl:uQ (JR (gs++[g])) w' mv'):
 bQ (w'.setCell ⟨a,2,none⟩ mv') G a m1 m2 mv' (gs++[g]) dv {d with moves:=d.moves++[ms]}:=by
 have hlow:=h.low;have hk1:∀b,b<w.heap.size->mv.ownBlock≠some b->w'.heap[b]?=w.heap[b]?:=λb hb hne=>(hgrow.block b (ak hb hE.size) (λe=>hne e.symm)).trans (hE.block b hb);have hk:∀b,b<w.heap.size->mv.ownBlock≠some b->b≠a->(w'.setCell ⟨a,2,none⟩ mv').heap[b]?=w.heap[b]?:=λb hb hne ha=>(Below.heap_setCell _ _ _ _ ha).trans (hk1 b hb hne);have hba:=G8 h.outer h.box (by decide);have yF:o8 w' a 174 #[.map (some m1),.map (some m2),mv,.int .i64 d.room,.int .i64 d.wait,.int .i64 d.bad]:=(hk1 a (hlow a h.fa) hba).trans h.box;have hsz:w.heap.size<=w'.heap.size:=ay hE.size hgrow.size;have Nv:∀b,mv.ownBlock=some b->b<w.heap.size:=λb hb=>hlow b (h.fo b hb);have hlen:=h.rows.1;exact{
  box:=yF.set 2 mv'
  now:=h.now.block (hk _ (hlow _ h.fm.1) (Q8 h.outer h.now) (h.iF h.box).1)
  safe:=h.safe.block (hk _ (hlow _ h.fm.2) (Q8 h.outer h.safe) (h.iF h.box).2)
  ne:=h.ne
  rows:=by
   refine⟨by simp[hlen],λi g' l hg' hl=>?_⟩;have key:∀q k,F q->oH w q k->oH (w'.setCell ⟨a,2,none⟩ mv') q k:=λq k hq hqk=>
    (hk q (hlow q hq) (G8 h.outer hqk (by decide)) (Es hqk h.box (by decide))).trans hqk
   by_cases hi:i<gs.length
   ·rw[bH hi] at hg';rw[bH (by omega)] at hl;exact key g' l (h.fg g' (aJ hg')) (h.rows.2 i g' l hg' hl)
   ·rw[bF (by omega)] at hg';rw[bF (by omega)] at hl;have e0:i - gs.length=0:=by
     rcases dU (i - gs.length) with e|e
     ·exact e
     ·rw[dK (by simp;omega)] at hg';cases hg'
    rw[e0] at hg';rw[<-hlen,e0] at hl;simp at hg' hl;subst hg';subst hl;exact key g ms hfg hg
  outer:=by
   have e1:(d.moves++[ms]).length=n:=by simp[hn]
   have e2:(((gs++[g]).zip (d.moves++[ms])).map λp=>oQ p.1 p.2)=u:=by
    rw[List.zip_append hlen];simp[hu]
   show(w'.setCell ⟨a,2,none⟩ mv').ownsRow 0 187 1 mv' (d.moves++[ms]).length _;rw[e1,e2];exact ownsRow_setCell_other (a:=⟨a,2,none⟩) hown (G8 hown yF (by decide)) _
  kJ:=hfl.keep λb hb=>Below.heap_setCell _ _ _ _ (λ(e:b=a)=>G8 hown yF (by decide) (e▸hb))
  flat:=λx hx=>(h.flat x hx).keep λb hb=>hk b (hlow b ((h.fx x hx).2 b hb)) (zB (h.file x hx).2 h.outer (by decide) hb) (λe=>G8 (h.file x hx).2 h.box (by decide) (e▸hb))
  file:=λx hx=>⟨(hk x (hlow x (h.fx x hx).1) (G8 h.outer (h.file x hx).1 (by decide)) (Es (h.file x hx).1 h.box (by decide))).trans (h.file x hx).1,
   iV.row (h.file x hx).2 _ λb hb=>hk b (hlow b ((h.fx x hx).2 b hb)) (zB (h.file x hx).2 h.outer (by decide) hb) (λe=>G8 (h.file x hx).2 h.box (by decide) (e▸hb))⟩
  apart:=h.apart
  fa:=(hG a).2 (.inl h.fa)
  fm:=⟨(hG _).2 (.inl h.fm.1),(hG _).2 (.inl h.fm.2)⟩
  fg:=by
   intro q hq;rcases aU.1 hq with hq|hq
   ·exact(hG q).2 (.inl (h.fg q hq))
   ·simp at hq;subst hq;exact(hG _).2 (.inl hfg)
  fo:=by
   intro b hb;rcases hat b hb with h1|h1
   ·exact(hG b).2 (.inl (h.fo b h1))
   ·exact(hG b).2 (.inr ⟨h1,Ep hown hb⟩)
  fx:=λx hx=>⟨(hG x).2 (.inl (h.fx x hx).1),λb hb=>(hG b).2 (.inl ((h.fx x hx).2 b hb))⟩
  low:=by
   intro b hb;have:(w'.setCell ⟨a,2,none⟩ mv').heap.size=w'.heap.size:=by simp[World.setCell]
   rw[this];rcases(hG b).1 hb with h1|h1
   ·have:=hlow b h1;omega
   ·exact h1.2
  wf:=⟨h.wf.now,h.wf.safe,λk hk' x hx f hf=>by
   rcases aU.1 hk' with hk'|hk'
   ·exact h.wf.moves k hk' x hx f hf
   ·simp at hk';subst hk';exact hm x hx f hf,h.wf.part,h.wf.ids⟩
  num:=h.num}
end
end
section
open Go.RowKit Go.Lib Go.Maps Dk
theorem b99:(prog.info? 187).map (λi=>(i.zero,i.size,i.bytes))=some (some (.slice none 0 0),1,24):=by kernel_rfl
theorem oH.ext'{w w':World}{g:Nat}{l:List Mv}(h:oH w g l)(hE:Ext w w'):oH w' g l:=(hE.block g (lt_of_block h)).trans h
def tM(F:Nat->Prop)(a:Nat)(d:D)(ms:List Mv)(w:World)(e:Ending)(w':World):Prop:=
 e=.returned (.tuple #[])/\∃F',A7 w' F' a (d.mv ms)/\fA F F' w w'/\∀b,F b->F' b
theorem name_any(F:Nat->Prop)(a g:Nat)(d:D)(ms:List Mv)(w:World)(h:A7 w F a d)(hg:oH w g ms)(hF:F g)(hms:∀m∈ms,m.1.length<=maxLen)(hlen:ms.length<=1000000)(hml:d.moves.length<=1000000)
 (hid:∀m∈ms,∀f,m.2=some f->f∈d.ids):Calls prog 148 #[o7 a,oQ g ms] w (tM F a d ms w):=by
 obtain⟨m1,m2,mv,gs,dv,h⟩:=h;obtain⟨i0,hi,hz0,hz1,hz2⟩:=info_parts b99;obtain⟨Lu,Ls,rfl⟩:=ownsRow_form h.outer;have c0:=h.box.cell 0;have hset:=set_any m1 g d.now ms w h.now hg hms hlen;have HS:=ah hset;have H:=ah h;have HG:=ah hg;have HI:=ah hid;clear hset h hg hms hid;show Calls prog 148 #[.pointer (some ⟨a,0,none⟩),.slice (some ⟨g,0,none⟩) ms.length ms.length] w (tM F a d ms w);go_enter func148,ntmps148
 go_wp2_with fail
 refine HS.out.mono ?_;rintro e w1 ⟨rfl,hN,hC⟩;have hl':∀p∈D6 d.now ms,p.2∈d.ids:=by
  intro p hp;rcases QS hp with hp|⟨x,hx,e⟩
  ·exact H.out.wf.now p hp
  ·exact HI.out x hx _ e
 have hR:bQ w1 F a m1 m2 _ gs dv {d with now:=D6 d.now ms}:=H.out.now' (λb hb hne=>hC.block b hb hne) hC.size hN hl';have hG1:oH w1 g ms:=(hC.block g (lt_of_block HG.out) (bP (H.out.iF HG.out).1)).trans HG.out;have c2:=hR.box.cell 2;have f2:=hR.box.free 2;have hown:=hR.outer;have hbx:=hR.box;have hba:=G8 hown hbx (by decide);have halt:=lt_of_block hbx;have mx:∀x∈(Value.slice none 0 0).cells,JR (gs++[g]) x:=λx hx=>.inl (by simpa [Value.cells] using hx);have nl:∀x∈[oQ g ms],JR (gs++[g]) x:=λx hx=>.inr ⟨g,ms.length,by simp,by simpa [oQ] using hx⟩;have my:uQ (JR (gs++[g])) w1 (.slice Lu d.moves.length Ls):=λq c e fr hg hc x hx=>(hR.kJ q c e fr hg hc x hx).imp id λ⟨q,n,hq,e⟩=>⟨q,n,List.mem_append_left _ hq,e⟩;have jt:=ah hbx;have Wj:=ah hba;clear hbx hba;have HR:=ah hR;have HG1:=ah hG1;have HC:=ah hC;clear hR hG1 hC hN hl' c0;go_wp2_with (at_builtin;go_must (refine Vs (F:=JR (gs++[g])) rfl _ _ 172 rfl 0 187 i0 (.slice none 0 0) 1 24 underlying172 hi hz0 hz1 hz2 rfl (by omega) (.slice Lu d.moves.length Ls) d.moves.length _ rfl (hown.alloc (.cells #[oQ g ms] 187)) (.slice (some ⟨w1.heap.size,0,none⟩) 1 1) 1 [oQ g ms] rfl ⟨_,_,rfl,by omega,⟨by omega,λh=>by cases h⟩,λ_=>⟨_,rfl,World.news_of_block (cs:=#[oQ g ms]) (t:=187) (fr:=(0,0)) (heap_alloc_new w1 _)⟩⟩ rfl (by simp[Value.oneCell',oQ]) (by unfold maxLen;omega) (by omega) (by omega) mx nl (my.keep λb hb=>heap_alloc_old _ _ (Ep hown hb)) ?_);intro b6 c6 w6 hown6 hgrow6 jL pU;have hb6:=ah ((hgrow6.block a (by simp;omega) (bP Wj.out)).trans (jt.out.alloc (.cells #[oQ g ms] 187)));have c62:=o8.cell hb6.out 2;have f62:=o8.free hb6.out 2)
 go_end0
 have ni:Ext w1 (w1.alloc (.cells #[oQ g ms] 187)):=(Ext.refl w1).new _;have Oj:=HR.out.Fq (G:=λb=>F b\/(w1.heap.size<=b/\b<w6.heap.size)) ni HG1.out hgrow6 hown6 rfl rfl hF (λb=>Iff.rfl) HI.out (by
  intro b hb;rcases jL with h|h
  ·exact .inl (h▸hb)
  ·rw[h] at hb;injection hb with hb;subst hb;exact .inr (by simp)) pU
 refine⟨rfl,_,⟨m1,m2,_,_,dv,Oj⟩,?_,λb hb=>.inl hb⟩;have hsz:w1.heap.size<=w6.heap.size:=ay ni.size hgrow6.size;have hm1:F m1:=HR.out.fm.1;have Nv:=HR.out.fo;have hlow:=HR.out.low;have hsC:=HC.out.size;refine⟨hgrow6.os.trans (ni.os.trans HC.out.os),hgrow6.tape.trans (ni.tape.trans HC.out.tape),hgrow6.output.trans (ni.output.trans HC.out.output),by simp[World.setCell];omega,λb hb Yq=>?_,λb hb=>?_⟩
 ·have hne1:b≠a:=λe=>Yq (e▸HR.out.fa);have hne2:(Value.slice Lu d.moves.length Ls).ownBlock≠some b:=λe=>Yq (Nv b e);rw[Below.heap_setCell _ _ _ _ hne1];exact(hgrow6.block b (by simp;omega) (λe=>hne2 e.symm)).trans ((ni.block b (by omega)).trans (HC.out.block b hb (λe=>Yq (e▸hm1))))
 ·rcases hb with h|h
  ·exact .inl h
  ·exact .inr (by omega)
end
section
open Go.RowKit Go.Lib Go.Maps Dk
def SN(F:Nat->Prop)(a:Nat)(r:Er×D)(w:World)(e:Ending)(w':World):Prop:=
 ∃F' v,e=.returned v/\Held w' F' (λW=>ErrAt W v r.1)/\A7 w' F' a r.2/\fA F F' w w'/\∀b,F b->F' b
theorem oH.one(w:World)(nm:Nm)(o:Option Nat):oH (w.alloc (.cells #[bC nm,tY o] 251)) w.heap.size [(nm,o)]:=o8.new _ _ rfl
theorem A7.wide{w:World}{F:Nat->Prop}{a:Nat}{d:D}(h:A7 w F a d){G:Nat->Prop}(hF:∀b,F b->G b)(hG:∀b,G b->b<w.heap.size):A7 w G a d:=by
 obtain⟨m1,m2,mv,gs,dv,h⟩:=h;exact⟨m1,m2,mv,gs,dv,h.more hF hG⟩
theorem A7.addNode{w:World}{F:Nat->Prop}{a:Nat}{d:D}(h:A7 w F a d){x:Nat}(hx:o8 w x 176 #[.slice none 0 0,.int .i64 0])(hF:F x)(hn:x∉d.ids):
 A7 w F a {d with ids:=d.ids++[x],node:=upd d.node x ⟨[],0⟩}:=by
 obtain⟨m1,m2,mv,gs,dv,h⟩:=h;exact⟨m1,m2,mv,gs,_,h.addNode hx hF hn⟩
theorem A7.yh{w:World}{F:Nat->Prop}{a:Nat}{d:D}(h:A7 w F a d){x:Nat}(hx:x∈d.ids):x<w.heap.size:=by
 obtain⟨m1,m2,mv,gs,dv,h⟩:=h;exact h.low x (h.fx x hx).1
theorem A7.fa{w:World}{F:Nat->Prop}{a:Nat}{d:D}(h:A7 w F a d):F a:=by
 obtain⟨m1,m2,mv,gs,dv,h⟩:=h;exact h.fa
theorem fA.wide{F:Nat->Prop}{w w':World}(h:Ext w w'){G:Nat->Prop}(hG:∀b,G b->F b\/w.heap.size<=b):fA F G w w':=
 ⟨h.os,h.tape,h.output,h.size,λb hb _=>h.block b hb,hG⟩
theorem b4M(F:Nat->Prop)(a:Nat)(d:D)(name:Nm)(w:World)(h:A7 w F a d)(hn:name.length<=maxLen)(hml:d.moves.length<=1000000):
 Calls prog 90 #[o7 a,bC name] w λe w'=>∃x,x∉d.ids/\SN F a (d.create name x) w e w':=by
 have kM:=bS F a d w h;have hx0:w.heap.size∉d.ids:=λhx=>by have:=h.yh hx;omega
 have HF:=ah kM;clear kM h;unfold o7 bC;go_enter func90,ntmps90
 go_wp2_with fail
 refine HF.out.mono ?_;rintro e w1 ⟨rfl,hD,hO⟩;have HD0:=ah hD;have HO:=ah hO;have hl1:∀b,F b->b<w1.heap.size:=hD.low;have hfa:F a:=hD.fa;obtain⟨m1,m2,mv,gs,dv,h⟩:=hD;have c0:=h.box.cell 0;have jU:d.fails.2.ids=d.ids:=d.jV.2.2.2.2.1;have XF:d.fails.2.moves=d.moves:=d.jV.2.2.1;have hlk:=h.now.look EH Ag underlying171 (ZT w1) (Et hn);have ix:fA F F w w1:=fA.off hO hfa;have HC:=ah ix;clear ix;clear h hO
 cases hf:d.fails.1 with
 | true=>
  clear hlk c0;go_wp2;go_ret;refine⟨_,hx0,F,.iface 132 (.pointer (some ⟨w1.heap.size,0,none⟩)),rfl,?_,?_,HC.out.trans (fA.ext ((Ext.refl w1).new _)),λb hb=>hb⟩
  ·unfold D.create;rw[if_pos hf];exact EI hl1
  ·unfold D.create;rw[if_pos hf];exact HD0.out.ext ((Ext.refl w1).new _)
 | false=>
  have BK:¬d.fails.1=true:=by rw[hf];decide
  cases hl:D7 d.fails.2.now name with
  | some y=>
   rw[hl] at hlk;simp only[dH,aP] at hlk;unfold bC o7 at hlk;go_wp2;go_ret;refine⟨_,hx0,F,.iface 132 (.pointer (some ⟨w1.heap.size,0,none⟩)),rfl,?_,?_,HC.out.trans (fA.ext ((Ext.refl w1).new _)),λb hb=>hb⟩
   ·unfold D.create;rw[if_neg BK,if_pos (by rw[hl];rfl)];exact EI hl1
   ·unfold D.create;rw[if_neg BK,if_pos (by rw[hl];rfl)];exact HD0.out.ext ((Ext.refl w1).new _)
  | none=>
   rw[hl] at hlk;simp only[Option.map_none,Option.getD_none] at hlk;have hE1:Ext w1 (w1.alloc (.cells #[.slice none 0 0,.int .i64 0] 176)):=(Ext.refl w1).new _;have hE2:Ext w1 ((w1.alloc (.cells #[.slice none 0 0,.int .i64 0] 176)).alloc (.cells #[bC name,tY (some w1.heap.size)] 251)):=hE1.new _;have hxb:o8 (w1.alloc (.cells #[.slice none 0 0,.int .i64 0] 176)) w1.heap.size 176 #[.slice none 0 0,.int .i64 0]:=o8.new _ _ rfl;have MX:o8 ((w1.alloc (.cells #[.slice none 0 0,.int .i64 0] 176)).alloc (.cells #[bC name,tY (some w1.heap.size)] 251)) w1.heap.size 176 #[.slice none 0 0,.int .i64 0]:=hxb.alloc _;have hmv:=oH.one (w1.alloc (.cells #[.slice none 0 0,.int .i64 0] 176)) name (some w1.heap.size);have hw2:((w1.alloc (.cells #[.slice none 0 0,.int .i64 0] 176)).alloc (.cells #[bC name,tY (some w1.heap.size)] 251)).heap.size=w1.heap.size+2:=by simp
   have hx1:w1.heap.size∉d.fails.2.ids:=λhx=>by have:=HD0.out.yh hx;omega
   have hD2:=((HD0.out.ext hE2).wide (G:=λb=>F b\/w1.heap.size<=b/\b<w1.heap.size+2) (λb hb=>.inl hb) (λb hb=>by rw[hw2];rcases hb with hb|hb;(have:=hl1 b hb;omega);omega)).addNode MX (.inr (by omega)) hx1;have hnm:=name_any _ a (w1.heap.size+1) _ [(name,some w1.heap.size)] _ hD2 (by simpa using hmv) (.inr (by omega)) (by simpa using hn) (by simp) (by rw[XF];exact hml) (by simp);have hch:fA F (λb=>F b\/w1.heap.size<=b/\b<w1.heap.size+2) w ((w1.alloc (.cells #[.slice none 0 0,.int .i64 0] 176)).alloc (.cells #[bC name,tY (some w1.heap.size)] 251)):=HC.out.trans (fA.wide hE2 λb hb=>hb.elim .inl λh=>.inr h.1);have HN:=ah hnm;have HCH:=ah hch;clear hnm hch hD2 hmv hxb MX hE1 hE2 hw2;unfold oQ o7 tY bC o7 at HN;unfold bC at hlk;go_wp2_with fail
   refine HN.out.mono ?_;rintro e w3 ⟨rfl,F',hD3,mD,hF3⟩;go_wp2;go_ret;refine⟨w1.heap.size,by rw[<-jU];exact hx1,F',.nilIface,rfl,?_,?_,HCH.out.trans mD,λb hb=>hF3 b (.inl hb)⟩
   ·unfold D.create;rw[if_neg BK,if_neg (by rw[hl];decide)];exact Hu _ _
   ·unfold D.create;rw[if_neg BK,if_neg (by rw[hl];decide)];exact hD3
end
section
open Go.RowKit Go.Lib Go.Maps Dk
theorem b4N(d:D)(name:Nm):(∃er,(d.find name).1=none/\(d.find name).2.1=er/\er≠.ok)\/∃x,(d.find name).1=some x/\(d.find name).2.1=.ok:=by
 unfold D.find;split
 ·exact .inl ⟨_,rfl,rfl,by simp⟩
 ·cases D7 d.now name with
  | none=>exact .inl ⟨_,rfl,rfl,by simp⟩
  | some x=>exact .inr ⟨x,rfl,rfl⟩
theorem ZR(d:D)(name:Nm)(h:(d.find name).1=none):∃k,(d.find name).2.1=.file k name:=by
 unfold D.find at h⊢;split
 ·exact⟨_,rfl⟩
 ·rename_i hf;rw[if_neg hf] at h
  cases ha:D7 d.now name with
  | none=>exact⟨_,rfl⟩
  | some x=>rw[ha] at h;cases h
theorem UN(d:D)(name:Nm):(d.find name).2.2.moves=d.moves/\(d.find name).2.2.now=d.now/\(d.find name).2.2.ids=d.ids/\(d.find name).2.2.node=d.node/\(d.find name).2.2.safe=d.safe/\(d.find name).2.2.room=d.room:=by
 have e:=d.jV;have h:(d.find name).2.2=d.fails.2:=by
  unfold D.find;split
  ·rfl
  ·cases D7 d.now name<;>rfl
 rw[h];exact⟨e.2.2.1,e.1,e.2.2.2.2.1,e.2.2.2.2.2,e.2.1,e.2.2.2.1⟩
theorem CH{d:D}{name:Nm}(h:(d.find name).1=none):d.sync name=(d.find name).2:=by
 unfold D.sync;revert h;rcases d.find name with⟨o,er,d'⟩;rintro rfl;rfl
theorem vL{d:D}{name:Nm}{x:Nat}(h:(d.find name).1=some x):d.sync name=(.ok,(d.find name).2.2.setNode x {(d.find name).2.2.node x with safe:=((d.find name).2.2.node x).data.length}):=by
 unfold D.sync;revert h;rcases d.find name with⟨o,er,d'⟩;rintro rfl;rfl
theorem Uh{d:D}{name:Nm}(h:(d.find name).1=none):d.size name=(0,(d.find name).2):=by
 unfold D.size;revert h;rcases d.find name with⟨o,er,d'⟩;rintro rfl;rfl
theorem TT{d:D}{name:Nm}{x:Nat}(h:(d.find name).1=some x):d.size name=(((((d.find name).2.2.node x).data.length:Nat):Int),Er.ok,(d.find name).2.2):=by
 unfold D.size;revert h;rcases d.find name with⟨o,er,d'⟩;rintro rfl;rfl
theorem UM{d:D}{name:Nm}{at_ n:Int}(h:(d.find name).1=none):d.iE name at_ n=([],(d.find name).2):=by
 unfold D.iE;revert h;rcases d.find name with⟨o,er,d'⟩;rintro rfl;rfl
theorem Uu{d:D}{name:Nm}{at_ n:Int}{x:Nat}(h:(d.find name).1=some x):d.iE name at_ n=(Dk.part ((d.find name).2.2.node x).data at_ n,.ok,(d.find name).2.2):=by
 unfold D.iE;revert h;rcases d.find name with⟨o,er,d'⟩;rintro rfl;rfl
theorem P4{d:D}{name:Nm}{b:List UInt8}(h:(d.find name).1=none):d.append name b=(d.find name).2:=by
 unfold D.append;revert h;rcases d.find name with⟨o,er,d'⟩;rintro rfl;rfl
theorem b7z{d:D}{name:Nm}{b:List UInt8}{x:Nat}(h:(d.find name).1=some x):d.append name b=if (d.find name).2.2.room - (d.find name).2.2.used<b.length then(.file 10 name,(d.find name).2.2) else(.ok,(d.find name).2.2.setNode x {(d.find name).2.2.node x with data:=((d.find name).2.2.node x).data++b}):=by
 unfold D.append;revert h;rcases d.find name with⟨o,er,d'⟩;rintro rfl;rfl
theorem D.tN(d:D)(name:Nm)(x:Nat)(h:(d.find name).1=some x):(d.find name).2.1=.ok:=by
 rcases b4N d name with⟨er,h1,_⟩|⟨y,_,h2⟩
 ·rw[h1] at h;cases h
 ·exact h2
theorem D.kN(d:D)(name:Nm)(x:Nat)(h:(d.find name).1=some x)(hw:(d.find name).2.2.Wf):x∈(d.find name).2.2.ids:=by
 have hl:D7 d.now name=some x:=by
  unfold D.find at h;split at h
  ·cases h
  ·cases ha:D7 d.now name with
   | none=>rw[ha] at h;cases h
   | some y=>rw[ha] at h;exact h
 exact hw.now (name,x) (by rw[(UN d name).2.1];exact Ad hl)
theorem He.cases{F:Nat->Prop}{a:Nat}{d:D}{name:Nm}{w:World}{e:Ending}{w1:World}(h:He F a d name w e w1):
 A7 w1 F a (d.find name).2.2/\fA F F w w1/\
 ((∃b k,e=.returned (.tuple #[.pointer none,.iface 132 (.pointer (some ⟨b,0,none⟩))])/\(d.find name).1=none/\(d.find name).2.1=.file k name/\Held w1 F (λW=>ErrAt W (.iface 132 (.pointer (some ⟨b,0,none⟩))) (d.find name).2.1)) ∨
  (∃x,e=.returned (.tuple #[.pointer (some ⟨x,0,none⟩),.nilIface])/\(d.find name).1=some x)):=by
 obtain⟨v,rfl,hv,hD,hC⟩:=h;refine⟨hD,hC,?_⟩
 cases hx:(d.find name).1 with
 | none=>
  obtain⟨k,hk⟩:=ZR d name hx;have:=hv.get;rw[hk] at this;obtain⟨b,rfl,hb⟩:=this
  exact .inl ⟨b,k,rfl,rfl,hk,hv⟩
 | some x=>
  have hok:=(D.tN d name x hx);have:=hv.get;rw[hok] at this;have e:v=.nilIface:=this;subst e;exact .inr ⟨x,rfl,rfl⟩
theorem oH.two(w:World)(n1 n2:Nm)(o1 o2:Option Nat):oH (w.alloc (.cells #[bC n1,tY o1,bC n2,tY o2] 251)) w.heap.size [(n1,o1),(n2,o2)]:=o8.new _ _ rfl
end
section
open Go.RowKit Go.Lib Go.Maps Dk
section
variable{w w':World}{F:Nat->Prop}{a m1 m2:Nat}{mv:Value}{gs:List Nat}{dv:Nat->Value}{d:D}
theorem bQ.node'(h:bQ w F a m1 m2 mv gs dv d){x:Nat}(hx:x∈d.ids)(hk:∀b,b<w.heap.size->b≠x->(dv x).ownBlock≠some b->w'.heap[b]?=w.heap[b]?)(hs:w.heap.size<=w'.heap.size)
 {v:Value}{n:Nat}{l:List UInt8}(hbox:o8 w' x 176 #[v,.int .i64 n])(hown:OwnB w' 0 v l)(hat:∀b,v.ownBlock=some b->(dv x).ownBlock=some b\/w.heap.size<=b)(hnl:n<=l.length)(hfl:ug w' v)
 {G:Nat->Prop}(hG:∀b,G b<->F b\/(w.heap.size<=b/\b<w'.heap.size)):
 bQ w' G a m1 m2 mv gs (λi=>if i=x then v else dv i) (d.setNode x ⟨l,n⟩):=by
 have hlow:=h.low;have hxb:=(h.file x hx).1;have hxo:=(h.file x hx).2;have k2:∀b,F b->b≠x->(dv x).ownBlock≠some b->w'.heap[b]?=w.heap[b]?:=λb hb=>hk b (hlow b hb);have key:∀y∈d.ids,y≠x->∀b,(dv y).ownBlock=some b->w'.heap[b]?=w.heap[b]?:=λy hy hne b hb=>
  k2 b ((h.fx y hy).2 b hb) (λe=>G8 (h.file y hy).2 hxb (by decide) (e▸hb)) (h.apart y hy x hx hne b hb)
 exact{
  box:=(k2 a h.fa (Es h.box hxb (by decide)) (G8 hxo h.box (by decide))).trans h.box
  now:=h.now.block (k2 _ h.fm.1 (h.iF hxb).1 (Q8 hxo h.now))
  safe:=h.safe.block (k2 _ h.fm.2 (h.iF hxb).2 (Q8 hxo h.safe))
  ne:=h.ne
  rows:=⟨h.rows.1,λi g l hg hl=>(k2 g (h.fg g (aJ hg)) (Es (h.rows.2 i g l hg hl) hxb (by decide)) (G8 hxo (h.rows.2 i g l hg hl) (by decide))).trans (h.rows.2 i g l hg hl)⟩
  outer:=iV.row h.outer w' λb hb=>k2 b (h.fo b hb) (λe=>G8 h.outer hxb (by decide) (e▸hb)) (zB h.outer hxo (by decide) hb)
  kJ:=h.kJ.keep λb hb=>k2 b (h.fo b hb) (λe=>G8 h.outer hxb (by decide) (e▸hb)) (zB h.outer hxo (by decide) hb)
  flat:=by
   intro y hy;by_cases e:y=x
   ·subst e;simp only[if_true];exact hfl
   ·simp only[if_neg e];exact(h.flat y hy).keep λb hb=>key y hy e b hb
  file:=by
   intro y hy;by_cases e:y=x
   ·subst e;simp only[D.setNode,upd,if_true];exact⟨hbox,hown⟩
   ·simp only[D.setNode,upd,if_neg e];exact⟨(k2 y (h.fx y hy).1 e (G8 hxo (h.file y hy).1 (by decide))).trans (h.file y hy).1,iV.row (h.file y hy).2 w' λb hb=>key y hy e b hb⟩
  apart:=by
   intro y hy z hz hyz b hb;by_cases ey:y=x
   ·subst ey;have ez:z≠y:=λe=>hyz e.symm;simp only[if_true] at hb;simp only[if_neg ez];rcases hat b hb with h1|h1
    ·exact h.apart y hy z hz hyz b h1
    ·intro h2;have:=hlow b ((h.fx z hz).2 b h2);omega
   ·simp only[if_neg ey] at hb;by_cases ez:z=x
    ·subst ez;simp only[if_true];intro h2;rcases hat b h2 with h1|h1
     ·exact h.apart y hy z hz hyz b hb h1
     ·have:=hlow b ((h.fx y hy).2 b hb);omega
    ·simp only[if_neg ez];exact h.apart y hy z hz hyz b hb
  fa:=(hG a).2 (.inl h.fa)
  fm:=⟨(hG _).2 (.inl h.fm.1),(hG _).2 (.inl h.fm.2)⟩
  fg:=λg hg=>(hG g).2 (.inl (h.fg g hg))
  fo:=λb hb=>(hG b).2 (.inl (h.fo b hb))
  fx:=by
   intro y hy;refine⟨(hG y).2 (.inl (h.fx y hy).1),λb hb=>?_⟩;by_cases e:y=x
   ·subst e;simp only[if_true] at hb;rcases hat b hb with h1|h1
    ·exact(hG b).2 (.inl ((h.fx y hy).2 b h1))
    ·exact(hG b).2 (.inr ⟨h1,Ep hown hb⟩)
   ·simp only[if_neg e] at hb;exact(hG b).2 (.inl ((h.fx y hy).2 b hb))
  low:=λb hb=>by
   rcases(hG b).1 hb with h1|h1
   ·have:=hlow b h1;omega
   ·exact h1.2
  wf:=D.sU h.wf hnl
  num:=h.num}
end
def xi(F:Nat->Prop)(a:Nat)(r:Int×Er×D)(w:World)(e:Ending)(w':World):Prop:=
 ∃v,e=.returned (.tuple #[.int .i64 r.1,v])/\Held w' F (λW=>ErrAt W v r.2.1)/\A7 w' F a r.2.2/\fA F F w w'
theorem size_any(F:Nat->Prop)(a:Nat)(d:D)(name:Nm)(w:World)(h:A7 w F a d)(hn:name.length<=maxLen):
 Calls prog 67 #[o7 a,bC name] w (xi F a (d.size name) w):=by
 have hfind:=Ui F a d name w h hn;have HF:=ah hfind;clear hfind h;unfold o7 bC at *;go_enter func67,ntmps67
 go_wp2_with fail
 refine HF.out.mono ?_;intro e w1 hfi;obtain⟨hD,hC,hc⟩:=hfi.cases;have hxi:∀x,(d.find name).1=some x->x∈(d.find name).2.2.ids:=λx hx=>D.kN d name x hx hD.wf;rcases hc with⟨b,k,rfl,hx,hk,hv⟩|⟨x,rfl,hx⟩
 ·have HD:=ah hD;have HC:=ah hC;clear hD hC hfi;have HV:=ah hv;clear hv;go_wp2;go_ret2
  refine⟨.iface 132 (.pointer (some ⟨b,0,none⟩)),?_,?_,?_,HC.out⟩
  ·rw[Uh hx];rfl
  ·rw[Uh hx];exact HV.out
  ·rw[Uh hx];exact HD.out
 ·have hxm:=hxi x hx;have HD:=ah hD;have HC:=ah hC;clear hC hfi;obtain⟨m1,m2,mv,gs,dv,hr⟩:=hD;obtain⟨hb,ho⟩:=hr.file x hxm;obtain⟨da,dc,hdv⟩:=ownsRow_form ho;rw[hdv] at hb;have c0:=hb.cell 0;clear hr ho hb hdv hxi;go_wp2;go_ret2
  refine⟨.nilIface,?_,?_,?_,HC.out⟩
  ·rw[TT hx];rfl
  ·rw[TT hx];exact Hu _ _
  ·rw[TT hx];exact HD.out
theorem c0d(F:Nat->Prop)(a:Nat)(d:D)(name:Nm)(w:World)(h:A7 w F a d)(hn:name.length<=maxLen):
 Calls prog 92 #[o7 a,bC name] w λe w'=>SN F a (d.sync name) w e w':=by
 have hfind:=Ui F a d name w h hn;have HF:=ah hfind;clear hfind h;unfold o7 bC at *;go_enter func92,ntmps92
 go_wp2_with fail
 refine HF.out.mono ?_;intro e w1 hfi;obtain⟨hD,hC,hc⟩:=hfi.cases;have hxi:∀x,(d.find name).1=some x->x∈(d.find name).2.2.ids:=λx hx=>D.kN d name x hx hD.wf;rcases hc with⟨b,k,rfl,hx,hk,hv⟩|⟨x,rfl,hx⟩
 ·have HD:=ah hD;have HC:=ah hC;clear hD hC hfi;have HV:=ah hv;clear hv;go_wp2;go_ret;refine⟨F,.iface 132 (.pointer (some ⟨b,0,none⟩)),rfl,?_,?_,HC.out,λb hb=>hb⟩
  ·rw[CH hx];exact HV.out
  ·rw[CH hx];exact HD.out
 ·have hxm:=hxi x hx;have HC:=ah hC;clear hC hfi;obtain⟨m1,m2,mv,gs,dv,hr⟩:=hD;obtain⟨hb,ho⟩:=hr.file x hxm;obtain⟨da,dc,hdv⟩:=ownsRow_form ho;have hbx:=G8 ho hb (by decide);rw[hdv] at hb;have c0:=hb.cell 0;have c1:=hb.cell 1;have f1:=hb.free 1;have HR:=ah hr;have HB:=ah hb;have HV:=ah hdv;have HO:=ah ho;have HX:=ah hbx;clear hr ho hb hdv hxi hbx;go_wp2;go_ret;have hO:=(Off.refl x w1).setCell 1 (.int .i64 ((((d.find name).2.2.node x).data.length:Nat):Int));have hR2:=HR.out.node' (w':=w1.setCell ⟨x,1,none⟩ (.int .i64 ((((d.find name).2.2.node x).data.length:Nat):Int))) hxm (λb _ hne _=>hO.block b hne) (dS hO.size.symm) (HB.out.set 1 _) (l:=((d.find name).2.2.node x).data)
   (by rw[<-HV.out];exact iV.row HO.out _ λb hb=>hO.block b (λe=>HX.out (e▸hb))) (λb hb=>.inl (by rw[HV.out];exact hb)) (aj _)
   (by rw[<-HV.out];exact(HR.out.flat x hxm).keep λb hb=>hO.block b (λe=>HX.out (e▸hb))) (G:=F) (λb=>⟨.inl,λh=>h.elim id λh=>by have:=hO.size;omega⟩)
  refine⟨F,.nilIface,rfl,?_,?_,HC.out.trans (fA.off hO (HR.out.fx x hxm).1),λb hb=>hb⟩
  ·rw[vL hx];exact Hu _ _
  ·rw[vL hx];exact⟨m1,m2,mv,gs,_,hR2⟩
def Zv(l:List UInt8)(w:World)(e:Ending)(w':World):Prop:=∃v,e=.returned v/\OwnB w' w.heap.size v l/\Ext w w'/\ug w' v
theorem clone_any(v:Value)(l:List UInt8)(w:World)(h:Bytes w v l)(hl:l.length<=4611686018427387904)(hsz:l.length<=140737488355328):
 Calls prog 88 #[v] w (Zv l w):=by
 obtain⟨i0,hi,hz0,hz1,hz2⟩:=info_parts JY;have hb:=h;obtain⟨ad,cap,rfl,h1,h2,h3⟩:=h
 cases ad with
 | none=>
  have hl0:l=[]:=by
   have:=h2.2 rfl;exact cZ (by omega)
  subst hl0;obtain rfl:cap=0:=h2.2 rfl;clear hb;have hnil:(binOp BinOp.eql 25 (.slice none 0 0) (.slice none 0 0)).run prog w=.ok (.bool true) w:=run_eql_slice_nil w 25 5 none 0 0 0 0 underlying25;go_enter func88,ntmps88
  go_wp2;go_ret
  exact⟨_,rfl,⟨rfl,Or.inl ⟨rfl,rfl⟩⟩,Ext.refl w,ug.nil _ _ _⟩
 | some ad=>
  have HB:=ah hb;clear hb h3;have hnil:(binOp BinOp.eql 25 (.slice (some ad) l.length cap) (.slice none 0 0)).run prog w=.ok (.bool false) w:=run_eql_slice_nil w 25 5 (some ad) _ _ 0 0 underlying25;have hown0:(w.alloc (.cells #[] 5)).ownsRow w.heap.size 5 1 (.slice (some ⟨w.heap.size,0,none⟩) 0 0) 0 []:=
   ⟨rfl,Or.inr ⟨w.heap.size,0,#[],rfl,aj _,heap_alloc_new w _,aj _,by unfold maxLen;omega,rfl,rfl⟩⟩
  have yT:∀x∈(Value.int .u8 0).cells,isByte x:=λx hx=>⟨0,by simpa [Value.cells] using hx⟩;have BJ:uQ isByte (w.alloc (.cells #[] 5)) (.slice (some ⟨w.heap.size,0,none⟩) 0 0):=by
   intro g c e fr hg hc x hx;obtain rfl:w.heap.size=g:=by simpa [Value.ownBlock] using hg
   rw[heap_alloc_new w _] at hc;injection hc with hc;injection hc with hc;subst hc;simp at hx
  go_enter func88,ntmps88
  go_wp2_with (at_builtin;go_must (refine Vs (F:=isByte) rfl _ _ 25 rfl w.heap.size 5 i0 (.int .u8 0) 1 1 underlying25 hi hz0 hz1 hz2 rfl (by omega) (.slice (some ⟨w.heap.size,0,none⟩) 0 0) 0 [] rfl hown0 (.slice (some ad) l.length cap) l.length (l.map dX) rfl (HB.out.ext ((Ext.refl w).new _)) (by simp) (EP l) (by unfold maxLen;omega) (by omega) (by simp) yT (MY l) BJ ?_);intro b6 c6 w6 hown6 hgrow6 jL pU)
  go_ret;have hEE:Ext w w6:=Below.grown ((Ext.refl w).new (.cells #[] 5)) hgrow6 (by simp) (λk hk=>by simp[Value.ownBlock] at hk;omega);rw[n_] at pU;exact⟨_,rfl,by simpa [OwnB] using hown6,hEE,pU⟩
end
section
open Go.RowKit Go.Lib Go.Maps Dk
def Tz(F:Nat->Prop)(a:Nat)(r:List UInt8×Er×D)(w:World)(e:Ending)(w':World):Prop:=
 ∃u v,e=.returned (.tuple #[u,v])/\OwnB w' w.heap.size u r.1/\Held w' F (λW=>ErrAt W v r.2.1)/\A7 w' F a r.2.2/\fA F F w w'/\ug w' u
theorem VS(l:List UInt8)(at_ n:Int)(i j:Nat)(hi:(i:Int)=min (max at_ 0) l.length)(hj:(j:Int)=i+min (max n 0) (l.length - i)):Dk.part l at_ n=(l.take j).drop i/\i<=j/\j<=l.length:=by
 have h1:min at_.toNat l.length=i:=by omega
 have h2:min n.toNat (l.length - i)=j - i:=by omega
 refine⟨?_,by omega,by omega⟩;unfold Dk.part;rw[h1,h2,fG]
theorem RB(F:Nat->Prop)(a:Nat)(d:D)(name:Nm)(at_ n:Int)(w:World)(h:A7 w F a d)(hn:name.length<=maxLen)(hat:-9223372036854775808<=at_/\at_<=9223372036854775807)(hn2:-9223372036854775808<=n/\n<=9223372036854775807)
 (hds:∀x∈d.ids,(d.node x).data.length<=140737488355328):
 Calls prog 68 #[o7 a,bC name,.int .i64 at_,.int .i64 n] w (Tz F a (d.iE name at_ n) w):=by
 have hfind:=Ui F a d name w h hn;have HF:=ah hfind;clear hfind h;unfold o7 bC at *;go_enter func68,ntmps68
 go_wp2_with fail
 refine HF.out.mono ?_;intro e w1 hfi;obtain⟨hD,hC,hc⟩:=hfi.cases;have hxi:∀x,(d.find name).1=some x->x∈(d.find name).2.2.ids:=λx hx=>D.kN d name x hx hD.wf;rcases hc with⟨b,k,rfl,hx,hk,hv⟩|⟨x,rfl,hx⟩
 ·have HD:=ah hD;have HC:=ah hC;clear hD hC hfi;have HV:=ah hv;clear hv;go_wp2;go_ret2
  refine⟨.slice none 0 0,.iface 132 (.pointer (some ⟨b,0,none⟩)),rfl,?_,?_,?_,HC.out,ug.nil _ _ _⟩
  ·rw[UM hx];exact⟨rfl,Or.inl ⟨rfl,rfl⟩⟩
  ·rw[UM hx];exact HV.out
  ·rw[UM hx];exact HD.out
 ·have hxm:=hxi x hx;have hdl:((d.find name).2.2.node x).data.length<=140737488355328:=by
   have e:=UN d name;rw[e.2.2.2.1];exact hds x (by rw[<-e.2.2.1];exact hxm)
  have HD:=ah hD;have HC:=ah hC;clear hC hfi;obtain⟨m1,m2,mv,gs,dv,hr⟩:=hD;obtain⟨hb,ho⟩:=hr.file x hxm;obtain⟨da,dc,hdv⟩:=ownsRow_form ho;rw[hdv] at hb ho;have hbb:Bytes w1 (.slice da ((d.find name).2.2.node x).data.length dc) ((d.find name).2.2.node x).data:=OwnB.bytes ho;have hdc:((d.find name).2.2.node x).data.length<=dc/\dc<=9223372036854775807:=by
   obtain⟨a',c',e,h1,h2,_⟩:=hbb;injection e with e1 e2 e3;subst e3;exact⟨h1,h2.1⟩
  have c0:=hb.cell 0;have hlen:(d.find name).2.2.node x=⟨((d.find name).2.2.node x).data,((d.find name).2.2.node x).safe⟩:=rfl;have nL:((((d.find name).2.2.node x).data.length:Nat):Int)<=140737488355328:=by omega
  obtain⟨A,e1⟩:∃A:Int,(if at_<0 then(0:Int) else at_)=A:=⟨_,rfl⟩;have hA:A=max at_ 0:=by rw[<-e1];split<;>omega
  obtain⟨i,hi⟩:∃i:Nat,(i:Int)=min (max at_ 0) ((((d.find name).2.2.node x).data.length:Nat):Int):=⟨(min (max at_ 0) ((((d.find name).2.2.node x).data.length:Nat):Int)).toNat,by omega⟩;have e2:(if ((((d.find name).2.2.node x).data.length:Nat):Int)<A then((((d.find name).2.2.node x).data.length:Nat):Int) else A)=(i:Int):=by split<;>omega
  obtain⟨B,e3⟩:∃B:Int,(if n<0 then(0:Int) else n)=B:=⟨_,rfl⟩;have hB:B=max n 0:=by rw[<-e3];split<;>omega
  obtain⟨m,hm⟩:∃m:Nat,(m:Int)=min (max n 0) (((((d.find name).2.2.node x).data.length:Nat):Int) - i):=⟨(min (max n 0) (((((d.find name).2.2.node x).data.length:Nat):Int) - i)).toNat,by omega⟩;have e4:(if ((((d.find name).2.2.node x).data.length:Nat):Int) - i<B then((((d.find name).2.2.node x).data.length:Nat):Int) - i else B)=(m:Int):=by split<;>omega
  have hj:((i+m:Nat):Int)=i+min (max n 0) (((((d.find name).2.2.node x).data.length:Nat):Int) - i):=by omega
  have hil:i<=((d.find name).2.2.node x).data.length:=by omega
  obtain⟨hp,hij,hjl⟩:=VS ((d.find name).2.2.node x).data at_ n i (i+m) hi hj;have hcl:=clone_any _ _ w1 (hbb.sliced i (i+m) hij hjl) (by rw[dD,bD];omega) (by rw[dD,bD];omega);have hA0:0<=A/\A<=9223372036854775807:=by omega
  have hB0:0<=B/\B<=9223372036854775807:=by omega
  have yE:∀u,u=.slice (if dc=i then da else da.map (·.add i)) m (dc - i)->Calls prog 88 #[u] w1 (Zv ((((d.find name).2.2.node x).data.take (i+m)).drop i) w1):=by
   rintro _ rfl;have:=hcl;rwa [show i+m - i=m by omega] at this
  have HP:=ah hp;have iS:=ah yE;clear yE;clear hr ho hb hdv hxi hbb hp hcl hlen hi hj hm hA hB hij;generalize hL:((d.find name).2.2.node x).data=L at *;go_wp2_with fail
  all_goals
   refine(iS.out _ (by first|(rename_i h;rw[if_pos h,show dc - i=0 by omega])|(rename_i h;rw[if_neg h]))).mono ?_;rintro e w2 ⟨u,rfl,hu,hE,hfl⟩;have hsz:=HC.out.size;go_wp2;go_ret2
   refine⟨u,.nilIface,rfl,?_,?_,?_,HC.out.trans (fA.ext hE),hfl⟩
   ·rw[Uu hx,hL,HP.out];exact O4 hu hsz
   ·rw[Uu hx];exact Hu _ _
   ·rw[Uu hx];exact HD.out.ext hE
end
section
open Go.RowKit Go.Lib Go.Maps Dk
theorem RA(f:Nat->Nat)(c:Nat):∀l:List (Nm×Nat),(∀p∈l,f p.2<=c)->(l.map λp=>f p.2).sum<=l.length*c:=by
 intro l
 induction l with
 | nil=>intro _;simp
 | cons p l ih=>
  intro h;have h1:=h p (by simp);have h2:=ih λq hq=>h q (by simp[hq]);simp only[aB,Rq,bV,kZ];omega
theorem Ext.off{w w1 w2:World}(h:Ext w w1){i:Nat}(hO:Off i w1 w2)(hi:w.heap.size<=i):Ext w w2:=
 ⟨hO.os.trans h.os,hO.tape.trans h.tape,hO.output.trans h.output,by have:=hO.size;have:=h.size;omega,λb hb=>(hO.block b (by omega)).trans (h.block b hb)⟩
theorem o8.grown'{w w':World}{n:Nat}{t:TypeId}{cs:Array Value}(h:o8 w n t cs){row:Option Nat}(hg:w.grownBy w' row)(hr:row≠some n):o8 w' n t cs:=
 (hg.block n h.lt (λe=>hr e.symm)).trans h
def DJ(d:D)(vis:List (Nm×Nat)):Nat:=(vis.map λp=>(d.node p.2).data.length).sum
theorem b4O(F:Nat->Prop)(a:Nat)(d:D)(name:Nm)(u:Value)(l:List UInt8)(w:World)(h:A7 w F a d)(hb:Held w F (λW=>Bytes W u l))(hn:name.length<=maxLen)(hl:l.length<=35184372088832)
 (hds:∀x∈d.ids,(d.node x).data.length<=35184372088832)(hnl:d.now.length<=32768):
 Calls prog 91 #[o7 a,bC name,u] w λe w'=>SN F a (d.append name l) w e w':=by
 have hfind:=Ui F a d name w h hn;obtain⟨i0,hi,hz0,hz1,hz2⟩:=info_parts JY;have HF:=ah hfind;clear hfind h;obtain⟨ua,Wu,hu⟩:∃a c,u=.slice a l.length c:=by obtain⟨a,c,h,_⟩:=hb.get;exact⟨a,c,h⟩
 subst hu;have HBy:=ah hb;clear hb;unfold o7 bC at *;go_enter func91,ntmps91
 go_wp2_with fail
 refine HF.out.mono ?_;intro e w1 hfi;obtain⟨hD,hC,hc⟩:=hfi.cases;have hxi:∀x,(d.find name).1=some x->x∈(d.find name).2.2.ids:=λx hx=>D.kN d name x hx hD.wf;have FX:=HBy.out.step hC;have hfm:=UN d name;have BL:∀x∈(d.find name).2.2.ids,((d.find name).2.2.node x).data.length<=35184372088832:=by rw[hfm.2.2.1,hfm.2.2.2.1];exact hds
 have FK:(d.find name).2.2.now.length<=32768:=by rw[hfm.2.1];exact hnl
 rcases hc with⟨b,k,rfl,hx,hk,hv⟩|⟨x,rfl,hx⟩
 ·have HD:=ah hD;have HC:=ah hC;clear hD hC hfi FX hfm BL FK;have HV:=ah hv;clear hv;go_wp2;go_ret;refine⟨F,.iface 132 (.pointer (some ⟨b,0,none⟩)),rfl,?_,?_,HC.out,λb hb=>hb⟩
  ·rw[P4 hx];exact HV.out
  ·rw[P4 hx];exact HD.out
 ·have hxm:=hxi x hx;have hdx:=BL x hxm;have HX:=ah hx;have happ:=b7z (b:=l) hx;have E_:=ah happ;have HC:=ah hC;have HB1:=ah FX;have EY:=ah BL;have e_:=ah FK;clear hC hfi FX hxi hfm BL FK happ hx;generalize hE:(d.find name).2.2=E at *;clear hE;obtain⟨m1,m2,mv,gs,dv,hr⟩:=hD;have c0:=hr.box.cell 0;have hnum:=hr.num;obtain⟨w2,hrange,oW,yM,hsz2⟩:=hr.now.range underlying171;have HR:=ah hr;have KN:=ah oW;have HEX:=ah yM;clear hr oW yM;go_wp2;go_loopw [9] (λi wr=>∃vis,i=.int .i64 (DJ E vis:Nat)/\U4 prog 9 bC o7 wr w1.heap.size m1 E.now vis/\Ext w1 wr) (λ_ wr=>E.now.length - TD wr w1.heap.size)
  case atStart=>exact⟨[],rfl,KN.out,HEX.out⟩
  case round=>
   obtain⟨vis,rfl,oW,jg⟩:=hrel;have hvl:=oW.length;have jM:=oW.seen;rcases oW.next 0 with⟨p,w3,hnx,hpm,pV,hO3,hent,Xl⟩|⟨hnx,hperm⟩
   ·have hpi:=HR.out.wf.now p hpm;have tJ:Ext w1 w3:=jg.off hO3 (aj _);obtain⟨hb,ho⟩:=(HR.out.ext tJ).file p.2 hpi;obtain⟨da,dc,hdv⟩:=ownsRow_form ho;rw[hdv] at hb;have c1:=hb.cell 0;have hdl:=EY.out p.2 hpi;have hsum:DJ E (vis++[p])=DJ E vis+(E.node p.2).data.length:=by simp[DJ]
    have hmem:∀q∈vis,(E.node q.2).data.length<=35184372088832:=λq hq=>EY.out q.2 (HR.out.wf.now q (oW.mem q hq));have hsb:DJ E vis<=vis.length*35184372088832:=RA (λx=>(E.node x).data.length) _ vis hmem;have XE:=e_.out;have BD:DJ E vis<=1152921504606846976:=ay hsb (by omega);have nV:=pV.seen;have HH:=ah pV;have HS:=ah hsum;have Rx:=ah jM;have Rw:=ah nV;have qG:=ah tJ;have HO3:=ah hO3;clear ho hb pV hsum jM nV hmem hsb oW hO3 tJ;unfold bC o7 at hnx hent;go_wp2;go_roundw
    case rel=>
     refine⟨vis++[p],?_,HH.out,qG.out⟩;rw[HS.out];go_num
    case measure=>rw[Rx.out,Rw.out];simp;omega
   ·have DL:DJ E vis=E.used:=by unfold DJ D.used;exact(hperm.map _).sum_nat
    have hsb:E.used<=E.now.length*35184372088832:=RA (λx=>(E.node x).data.length) _ E.now (λq hq=>EY.out q.2 (HR.out.wf.now q hq));have XE:=e_.out;have hub:E.used<=1152921504606846976:=ay hsb (by omega);have hRr:=HR.out.ext jg;have c3:=hRr.box.cell 3;obtain⟨hb,ho⟩:=hRr.file x hxm;obtain⟨da,dc,hdv⟩:=ownsRow_form ho;have BJ:=hRr.flat x hxm;have yT:∀x∈(Value.int .u8 0).cells,isByte x:=λx hx=>⟨0,by simpa [Value.cells] using hx⟩;rw[hdv] at hb ho BJ;have hbx:=G8 ho hb (by decide);have d0:=hb.cell 0;have g0:=hb.free 0;have hby:=(HB1.out.ext jg);rw[DL];have HRR:=ah hRr;have RP:=ah jg;have jt:=ah hb;have KO:=ah hbx;have iu:=ah hdv;have i7:=ah hby;clear hRr jg hb hbx oW hperm jM hsb DL hby hdv c0;by_cases hroom:E.room - (E.used:Int)<(l.length:Int)
    ·go_wp2;go_ret;have mW:Ext w1 (wr.alloc (.cells #[bC name,.int .i64 10] 134)):=RP.out.new _;refine⟨F,.iface 132 (.pointer (some ⟨wr.heap.size,0,none⟩)),rfl,?_,?_,HC.out.trans (fA.ext mW),λb hb=>hb⟩
     ·rw[E_.out,if_pos hroom];exact EI HRR.out.low
     ·rw[E_.out,if_pos hroom];exact⟨m1,m2,mv,gs,dv,HR.out.ext mW⟩
    ·go_wp2_with (at_builtin;go_must (refine Vs (F:=isByte) rfl _ _ 25 rfl 0 5 i0 (.int .u8 0) 1 1 underlying25 hi hz0 hz1 hz2 rfl (by omega) (.slice da (E.node x).data.length dc) (E.node x).data.length ((E.node x).data.map dX) rfl ho (.slice ua l.length Wu) l.length (l.map dX) rfl i7.out.get (by simp) (EP l) (by unfold maxLen;omega) (by omega) (by omega) yT (MY l) BJ ?_);intro b6 c6 w6 hown6 hgrow6 jL pU;have hb6:=jt.out.grown' hgrow6 KO.out;have d6:=o8.cell hb6 0;have g6:=o8.free hb6 0;have RS:=ah hb6;clear hb6)
     go_ret;have hlen:((E.node x).data++l).length=(E.node x).data.length+l.length:=by simp
     have BG:(Value.slice b6 ((E.node x).data.length+l.length) c6).ownBlock≠some x:=G8 hown6 RS.out (by decide);have hR2:=HRR.out.node' (w':=w6.setCell ⟨x,0,none⟩ (.slice b6 ((E.node x).data.length+l.length) c6)) hxm
      (λb hb hne hno=>(Below.heap_setCell _ _ _ _ hne).trans (hgrow6.block b hb (λe=>hno (by rw[iu.out];exact e.symm))))
      (by simpa [World.setCell] using hgrow6.size) (RS.out.set 0 _) (l:=(E.node x).data++l)
      (by unfold OwnB;rw[hlen,bY];exact ownsRow_setCell_other (a:=⟨x,0,none⟩) hown6 BG _)
      (λb hb=>by rw[iu.out];rcases jL with h|h<;>rw[h] at hb;(exact .inl hb);(injection hb with hb;exact .inr (dS hb)))
      (by rw[hlen];have:=HRR.out.wf.part x hxm;omega) (pU.keep λb hb=>Below.heap_setCell _ _ _ _ (λ(e:b=x)=>BG (e▸hb))) (G:=λb=>F b\/wr.heap.size<=b/\b<w6.heap.size) (λb=>by simp[World.setCell])
     have Xj:=HRR.out.fx x hxm;rw[iu.out] at Xj;have hC2:fA F (λb=>F b\/wr.heap.size<=b/\b<w6.heap.size) wr (w6.setCell ⟨x,0,none⟩ (.slice b6 ((E.node x).data.length+l.length) c6)):=
      ⟨hgrow6.os,hgrow6.tape,hgrow6.output,by simpa [World.setCell] using hgrow6.size,λb hb hF=>(Below.heap_setCell _ _ _ _ (λe=>hF (by rw[show b=x from e];exact Xj.1))).trans (hgrow6.block b hb (λe=>hF (Xj.2 b e.symm))),λb hb=>hb.elim .inl λh=>.inr h.1⟩
     refine⟨_,.nilIface,rfl,?_,?_,HC.out.trans ((fA.ext RP.out).trans hC2),λb hb=>.inl hb⟩
     ·rw[E_.out,if_neg (by omega)];exact Hu _ _
     ·rw[E_.out,if_neg (by omega)];exact⟨m1,m2,mv,gs,_,hR2⟩
end
section
open Go.RowKit Go.Lib Go.Maps Dk
section
variable{w w':World}{F:Nat->Prop}{a m1 m2:Nat}{mv:Value}{gs:List Nat}{dv:Nat->Value}{d:D}
theorem bQ.still(h:bQ w F a m1 m2 mv gs dv d):bQ (w.setCell ⟨a,2,none⟩ (.slice none 0 0)) F a m1 m2 (.slice none 0 0) [] dv {d with moves:=[]}:=by
 have hO:=(Off.refl a w).setCell 2 (.slice none 0 0);have hb:=h.box;exact{
  box:=h.box.set 2 _
  now:=h.now.off hO (h.iF hb).1
  safe:=h.safe.off hO (h.iF hb).2
  ne:=h.ne
  rows:=⟨rfl,by simp⟩
  outer:=⟨rfl,Or.inl ⟨rfl,rfl⟩⟩
  kJ:=λg c e fr h=>by cases h
  flat:=λx hx=>(h.flat x hx).keep λb hb'=>hO.block b (λe=>G8 (h.file x hx).2 hb (by decide) (e▸hb'))
  file:=λx hx=>⟨(hO.block x (Es (h.file x hx).1 hb (by decide))).trans (h.file x hx).1,iV.row (h.file x hx).2 _ λb hb'=>hO.block b (λe=>G8 (h.file x hx).2 hb (by decide) (e▸hb'))⟩
  apart:=h.apart
  fa:=h.fa
  fm:=h.fm
  fg:=by simp
  fo:=by simp[Value.ownBlock]
  fx:=h.fx
  low:=λb hb=>by rw[hO.size];exact h.low b hb
  wf:=⟨h.wf.now,h.wf.safe,by simp,h.wf.part,h.wf.ids⟩
  num:=h.num}
theorem bQ.sW(h:bQ w F a m1 m2 mv gs dv d){k:Nat}{l:List Mv}(hk:d.moves[k]?=some l):∃b c g,mv=.slice (some ⟨b,0,none⟩) d.moves.length c/\w.cell? ⟨b,k,none⟩=some (oQ g l)/\oH w g l:=by
 have hlt:k<d.moves.length:=by
  rcases aX k d.moves.length with h|h
  ·exact h
  ·rw[dK h] at hk;cases hk
 have hl:=h.rows.1;have ho:=h.outer;rcases h.outer.2 with⟨_,h0⟩|⟨b,cap,cur,rfl,_,_,_,_,_,_⟩
 ·omega
 ·have hg:gs[k]?=some gs[k]:=au (by omega);refine⟨b,cap,gs[k],rfl,?_,h.rows.2 k _ l hg hk⟩;have hz:(gs.zip d.moves)[k]?=some (gs[k],l):=by rw[List.getElem?_zip_eq_some];exact⟨hg,hk⟩
  have hm:((gs.zip d.moves).map λp=>oQ p.1 p.2)[k]?=some (oQ gs[k] l):=by rw[aZ,hz];rfl
  rw[ho.cellAt k (by omega)];exact hm
end
theorem a5w{ms:List (List Mv)}:∀{m:List (Nm×Nat)}{p:Nm×Nat},p∈ms.foldl D6 m->p∈m\/∃l∈ms,∃x∈l,x.2=some p.2:=by
 induction ms with
 | nil=>intro m p h;exact .inl h
 | cons l ms ih=>
  intro m p h;rcases ih h with h|⟨k,hk,h⟩
  ·rcases QS h with h|h
   ·exact .inl h
   ·exact .inr ⟨l,by simp,h⟩
  ·exact .inr ⟨k,by simp[hk],h⟩
theorem b3q(F:Nat->Prop)(a:Nat)(d:D)(w:World)(h:A7 w F a d)(hml:d.moves.length<=1000000)(hms:∀l∈d.moves,l.length<=1000000/\∀m∈l,m.1.length<=maxLen):
 Calls prog 53 #[o7 a] w λe w'=>SN F a d.gK w e w':=by
 have kM:=bS F a d w h;have HF:=ah kM;clear kM h;have hfn:=d.jV;have hsd:d.gK=if d.fails.1=true then(.file 9 [],d.fails.2) else(.ok,{d.fails.2 with safe:=d.fails.2.moves.foldl D6 d.fails.2.safe,moves:=[]}):=by
  unfold D.gK;rw[hfn.2.1,hfn.2.2.1]
 rw[<-hfn.2.2.1] at hml hms;have HM:=ah hms;clear hms;have VN:=ah hsd;clear hsd hfn;unfold o7;go_enter func53,ntmps53
 go_wp2_with fail
 refine HF.out.mono ?_;rintro e w1 ⟨rfl,hD,hO⟩;have hl1:∀b,F b->b<w1.heap.size:=hD.low;have hfa:F a:=hD.fa;have HC:=ah (fA.off (F:=F) hO hfa);clear hO
 cases hf:d.fails.1 with
 | true=>
  have HD:=ah hD;clear hD;go_wp2;go_ret;refine⟨F,.iface 132 (.pointer (some ⟨w1.heap.size,0,none⟩)),rfl,?_,?_,HC.out.trans (fA.ext ((Ext.refl w1).new _)),λb hb=>hb⟩
  ·rw[VN.out,if_pos hf];exact EI (name:=[]) hl1
  ·rw[VN.out,if_pos hf];exact HD.out.ext ((Ext.refl w1).new _)
 | false=>
  have BK:¬d.fails.1=true:=by rw[hf];decide
  generalize hE:d.fails.2=E at *;clear hE;obtain⟨m1,m2,mv,gs,dv,hr⟩:=hD;have c1:=hr.box.cell 1;have c2:=hr.box.cell 2;obtain⟨Lu,Ls,rfl⟩:=ownsRow_form hr.outer;have HR:=ah hr;clear hr;go_wp2;go_loopw [15] (λi wr=>∃k:Nat,k<=E.moves.length/\i=.int .i64 k/\bQ wr F a m1 m2 (.slice Lu E.moves.length Ls) gs dv {E with safe:=(E.moves.take k).foldl D6 E.safe}/\fA F F w1 wr) (λi _=>E.moves.length - (intOf i).toNat)
  case atStart=>exact⟨0,bU _,rfl,HR.out,fA.refl _ _⟩
  case round=>
   obtain⟨k,hk,rfl,hr,hC⟩:=hrel;have d1:=hr.box.cell 1;by_cases hlt:k<E.moves.length
   ·obtain⟨l,hm⟩:∃l,E.moves[k]?=some l:=⟨_,au hlt⟩;obtain⟨b,c,g,hbc,hcell,hrow⟩:=hr.sW hm;injection hbc with hb1 hb2 hb3;subst hb1;have hml:=HM.out l (aJ hm);have hset:=set_any m2 g _ l wr hr.safe hrow hml.2 hml.1;have htk:E.moves.take (k+1)=E.moves.take k++[l]:=by rw[dW,hm];rfl
    have HT:=ah htk;have HRR:=ah hr;have HC2:=ah hC;have HS:=ah hset;have HLM:=ah (aJ hm);clear htk hr hC hset hrow hml hm hb2 hb3;unfold oQ at hcell HS;go_wp2_with fail
    refine HS.out.mono ?_;rintro e w3 ⟨rfl,hN3,mD⟩;have zO:=ah hN3;have oN:=ah mD;clear hN3 mD;go_wp2;go_roundw
    case rel=>
     have jU:∀p∈D6 ((E.moves.take k).foldl D6 E.safe) l,p.2∈E.ids:=by
      intro p hp;rcases QS hp with hp|⟨x,hx,e⟩
      ·rcases a5w hp with hp|⟨q,hq,x,hx,e⟩
       ·exact HR.out.wf.safe p hp
       ·exact HR.out.wf.moves q (List.mem_of_mem_take hq) x hx _ e
      ·exact HR.out.wf.moves l HLM.out x hx _ e
     have Jt:=HRR.out.Lc (λb hb hne=>oN.out.block b hb hne) oN.out.size zO.out jU;refine⟨k+1,by omega,by go_num,?_,?_⟩
     ·rw[HT.out,mJ];exact Jt
     ·exact HC2.out.trans ⟨oN.out.os,oN.out.tape,oN.out.output,oN.out.size,λb hb hF=>oN.out.block b hb (λe=>hF (e▸HRR.out.fm.2)),λb hb=>.inl hb⟩
    case measure=>simp[intOf];omega
   ·obtain rfl:k=E.moves.length:=by omega
    rw[bG] at hr;have f2:=hr.box.free 2;have d2:=hr.box.cell 2;have HRR:=ah hr;have HC2:=ah hC;clear hr hC;go_wp2;go_ret;have hR2:=HRR.out.still;refine⟨F,.nilIface,rfl,?_,?_,HC.out.trans (HC2.out.trans (fA.off ((Off.refl a wr).setCell 2 _) hfa)),λb hb=>hb⟩
    ·rw[VN.out,if_neg BK];exact Hu _ _
    ·rw[VN.out,if_neg BK];exact⟨m1,m2,_,_,dv,hR2⟩
def D.fail(d:D)(after times:Int):D:={d with wait:=after.toNat,bad:=times.toNat}
end
section
open Go.RowKit Go.Lib Go.Maps Dk
def Dk.cut(tail:Nat)(n:Nd):Nd:=⟨n.data.take (n.safe+tail%(n.data.length - n.safe+1)),n.safe+tail%(n.data.length - n.safe+1)⟩
def Dk.D.stepped(d:D)(dir:Nat):List (Nm×Nat):=(d.moves.take (dir%(d.moves.length+1))).foldl D6 d.safe
theorem OwnB.take{w:World}{B:Nat}{ao:Option Addr}{n cap:Nat}{l:List UInt8}(h:OwnB w B (.slice ao n cap) l){k:Nat}(hk:k<=l.length):OwnB w B (.slice ao k cap) (l.take k):=by
 unfold OwnB at *;have hl:(l.take k).length=k:=by rw[bD];omega
 rw[hl];obtain⟨h1,h2⟩:=h;refine⟨by rw[b_,hl,qx],?_⟩;rcases h2 with⟨e,h0⟩|⟨g,c,cur,e,hb,hg,h3,h4,h5,h6⟩
 ·injection e with e1 e2 e3;subst e1;subst e3;have:k=0:=by omega
  subst this;exact .inl ⟨rfl,rfl⟩
 ·injection e with e1 e2 e3;subst e1;subst e3;refine .inr ⟨g,cap,cur,rfl,hb,hg,by omega,h4,h5,?_⟩;rw[qx] at h6⊢;rw[List.map_take,<-h6,qA,kT hk]
end
section
open Dk
def nI(x y:Nm):Bool:=decide (x<=y)
def Dk.D.list(d:D):List Nm:=(d.now.map Prod.fst).mergeSort nI
theorem K4(a b c:Nm)(h:nI a b=true)(k:nI b c=true):nI a c=true:=by
 unfold nI at *;simp at *;exact Std.le_trans h k
theorem K3(a b:Nm):(nI a b||nI b a)=true:=by
 unfold nI;simp;exact Std.le_total
theorem bR{l k:List Nm}(h:l.Perm k):l.mergeSort nI=k.mergeSort nI:=by
 refine List.Perm.eq_of_pairwise (le:=λa b=>nI a b=true) ?_ (VD K4 K3 l) (VD K4 K3 k) ?_
 ·intro a b _ _ h1 h2;unfold nI at h1 h2;simp at h1 h2;exact Std.le_antisymm h1 h2
 ·exact(rX l nI).trans (h.trans (rX k nI).symm)
end
end Go.Proofs.YtgpbhjjajpbeeaaGreatDoor
