/- A part of what the last file proves. -/
import Derived.Test.YtgpbhjjajpbeeaaGreatDoorA19
import Derived.Test.YtgpbhjjajpbeeaaGreatDoorA21
set_option linter.all false
set_option maxRecDepth 100000
set_option maxHeartbeats 3200000
open Go.Proofs.Tryz
namespace Go.Proofs.YtgpbhjjajpbeeaaGreatDoor
open Go.RowKit Go.Lib Go.Maps Dk Pl Go.Conc Go.Mw To
variable{τ:Nat->Question->Nat}{A B L M k p:Nat}{Φ:World->Prop}{c:Code}{t:bT}{f:fC}{E:D}{l:dV}
section
open Zn (tp)
variable{F G:tyP}{w:aB}{a:Nat}{d:D}
structure gI(F:Nat->Prop)(w w':World):Prop where
 os:w'.os=w.os
 output:w'.output=w.output
 size:w.heap.size<=w'
 block:∀b,b<w.heap.size->¬F b->w'.heap[b]?=w.heap[b]?
def gI.refl(F:tyP)(w:aB):gI F w w:=⟨rfl,rfl,ak _,λ_ _ _=>rfl⟩
def gI.trans{F:tyP}{a b c:aB}(h:gI F a b)(k:gI F b c):gI F a c:=
 ⟨k.os.trans h.os,k.output.trans h.output,ay h.size k.size,λx e d=>(k.block x (aF e h.size) d).trans<|h.block x e d⟩
def gI.of{w':aB}{a:Nat->Question->Nat}{p':Nat}(h:iq F G (tp w τ p) (tp w' a p')):gI F w w':=⟨h.os,h.output,h.size,h.block⟩
def gI.ext{F:tyP}{w w':aB}{τ a:Nat->Question->Nat}{p p':Nat}(h:Ext (tp w τ p) (tp w' a p')):gI F w w':=⟨h.os,h.output,h.size,λb c _=>h.block b c⟩
def gI.less{w':aB}(h:gI G w w')(c:∀b,b<w.heap.size->G b->F b):gI F w w':=⟨h.os,h.output,h.size,λb a e=>h.block b a λd=>e<|c b a d⟩
def Held.jU{w':aB}(h:Held w F Φ)(c:gI F w w')(i:∀b,F b->b<w.heap.size):Held w' F Φ:=have⟨S,d,g⟩:=h;⟨S,λb a=>⟨aF (d b a).1 c.size,(d b a).2⟩,λe f=>g e λb a=>(f b a).trans<|c.block b (d b a).1 (d b a).2⟩
def o7.oV(h:o7 (tp w τ p) F a d):o7 w F a d:=h.frame (λ_ _=>rfl)<|ak _
def o7.eU(h:o7 w F a d):o7 (tp w τ p) F a d:=h.frame (λ_ _=>rfl)<|ak _
def c0g:I8 0=.seq (N9 0) (I8 1):=rfl
def c0h:I8 1=.seq (N9 1) (I8 2):=rfl
def c0i:I8 2=.seq (N9 2) (I8 3):=rfl
def c0j:I8 3=.seq (N9 3) (I8 4):=rfl
def c0k:I8 4=.seq (N9 4) (I8 5):=rfl
def c0l:I8 5=.seq (N9 5) (I8 6):=rfl
def b65:I8 10=.seq (N9 10) (I8 11):=rfl
def b66:I8 11=.seq (N9 11) (I8 12):=rfl
def b67:I8 12=.seq (N9 12) (I8 13):=rfl
noncomputable def W_:List Code:=[N9 0,N9 1,N9 2,N9 3,N9 4,N9 5,N9 10,N9 11,N9 12,I8 13]
def b68:W_.all (Zn.nU zb)=true:=rfl
def yv(h:c∈W_):Zn.gV zone c:=Zn.nU.sound<|aU.1 b68 c h
def fX(k:Tmp):Bool:=decide (k=11)||decide (k=12)||(decide (15<=k)&&decide (k<=18))||decide (79<=k)
def c0n:([N9 10,N9 11,N9 12,I8 13].all (Zn.mG fX))=true:=rfl
def c3H(h:c∈[N9 10,N9 11,N9 12,I8 13]):Zn.iW (λk=>fX k=true) c:=Zn.mG.sound<|aU.1 c0n c h
end
section
open Zn (tp Full)
open To (mX lS Q5 Iv PO)
def QO2(a c:Nat)(w:aB):Exit->Act->World->Prop
 | .normal,b,d=>b.defers=[]/\b.tmps.size=118/\b.tmps[0]?=some (l9 a)/\b.tmps[4]?=some (.pointer (some c))/\d=w
 | _,_,_=>False
theorem t2{a c:Nat}(T:dU)(e:T.size=118)(f:T[0]?=some (l9 a))(d:T[4]?=some (.pointer (some c)))(b:T[5]?=some (.nilIface))(w:aB):(N9 2).wp prog (QO2 a c w) ⟨T,[]⟩ w:=by rw[O8 (O8 (O8 (Dc T e) (k:=0) (I7 f)) (k:=4) (I7 d)) (k:=5) (I7 b)];generalize (λk=>T.getD k undef)=x;clear e f d b;unfold N9 I8;simp only[Code.behind,Code.head,f14,zh,up,reduceIte];go_wp2;trivial
def b8(y:aX)(w:aB):Exit->Act->World->Prop
 | .ret,a,b=>a.defers=[]/\a.tmps[2]?=some (.pointer none)/\a.tmps[3]?=some y/\b=w
 | _,_,_=>False
theorem t2e{v:aX}(T:dU)(b:T.size=118)(a:T[5]?=some (.iface t v))(w:aB):(N9 2).wp prog (b8 (.iface t v) w) ⟨T,[]⟩ w:=by rw[O8 (Dc T b) (I7 a)];clear b a;unfold N9 I8;simp[Code.behind,Code.head,f14,zh,up];go_wp2;trivial
theorem err_iface{w:aB}{y:aX}{a:Er}(h:ErrAt w y a)(c:a≠.ok):∃t v,y=.iface t v:=by
 cases a with
 | ok=>trivial
 | num=>exact⟨_,_,h⟩
 | file=>obtain⟨b,rfl,_⟩:=h;simp
def Dk.D.iK(d:D):Option (Nat×List Int×List (List UInt8))×Er×D:=
 match d.bF with
 | (none,b,f)=>(none,b,f)
 | (some (g,a),_,f)=>match D.dR a f [] with
  | (c,.ok,e)=>(some (g,a,c),.ok,e)
  | (_,b,e)=>(none,b,e)
variable[To.Lo]{Sh:Nat->Prop}{X:Tmp->Prop}{fn:FuncId}{Q:Exit->Act->World->(Nat->Prop)->Prop}{a:Act}{w:World}
def piece(Q0:World->Exit->Act->World->Prop)(f:Iv zone Sh X a w)(j:Zn.gV zone c)(i:Zn.iW X c)(h:∀τ p,c.wp prog (Q0 (tp w τ p)) a (tp w τ p))
 (k:∀e a' w' τ p b p',Q0 (tp w τ p) e a' (tp w' b p')->(e=.normal\/e=.ret)/\(Iv zone Sh X a' w'->w.heap.size<=w'->Q e a' w' Sh)):mX prog fn c Q a w Sh:=
 lS (Q0:=λe a' w'=>∃τ p,Q0 (tp w τ p) e _ w') kh f j i (λτ p=>Code.wp_mono fU<|h _ p) λe a' w' b p'⟨τ,p,q⟩=>k e _ _ _ p b _ q
end
section
open Zn (tp Full)
open To (mX lS Q5 Iv PO)
variable{a e n:Nat}{d:D}
section
variable{F G:Nat->Prop}{w w':World}
theorem gI.eq{a:Nat->Question->Nat}{p':Nat}(h:tp w' a p'=tp w τ p):gI F w w':=by have c:(tp _ a _).heap=(tp w _ p).heap:=congrArg _ h;replace c:w'.heap=w.heap:=c;exact⟨(congrArg _ h:(tp _ a _).os=(tp w _ p).os),(congrArg _ h:(tp _ a _).output=(tp w _ p).output),fU,λb _ _=>by rw[c]⟩
def gI.box{cs:dU}(c:gI F w w')(h:o6 w n t cs)(a:¬F n):o6 w' n t cs:=(c.block n h.lt a).trans h
def gI.disk(c:gI G w w')(h:o7 w F a d)(f:∀b,F b->¬G b):o7 w' F a d:=h.frame (λb e=>c.block b (h.low b e)<|f b e) c.size
def gI.row{e:bT}{size:Nat}{v:aX}{xs:jl}(c:gI F w w')(h:w.ownsRow B e size v n xs)(d:∀b,v.ownBlock=some b->¬F b):w'.ownsRow B e size v n xs:=jH.row h _ λb a=>c.block b (World.ownsRow.lt h b a).2<|d b a
end
structure Hd(F:Nat->Prop)(a:Nat)(d:D)(w:World)(T:Array Value)(w':World)(gen:Nat)(ids:List Int)(bss:List (List UInt8))(mb fb rb sx sb Cb:Nat)(ia:Option Addr)(ic:Nat)(vs:List Value)(d2:D):Prop where
 ko:d.iK=(some (gen,ids,bss),.ok,d2)
 xI:zk ids
 hs:T.size=118
 t4:T[4]?=some (.pointer (some mb))
 t6:T[6]?=some (.pointer (some fb))
 t11:T[11]?=some (.pointer (some sx))
 disk:o7 w' F a d2
 jU:gI F w w'
 hmb:o6 w' mb 125 #[.int .u64 gen,.slice ia ids.length ic]
 pR:jd w' w (.slice ia ids.length ic) ids
 hfb:o6 w' fb 128 #[.slice (some ⟨rb,0,none⟩) ids.length ids.length]
 hrow:zY w w' rb ids.length vs bss
 KI:bss.length=ids.length
 hsx:o6 w' sx 32 #[.pointer (some sb)]
 hsb:o6 w' sb 138 #[l9 a,.int .u64 gen,.slice ia ids.length ic,.slice (some ⟨Cb,0,none⟩) ids.length ids.length,.map none,.int .i64 0]
 hcb:w'.heap[Cb]?=some (.cells (madeCells #[.int .i64 0,.slice none 0 0] (ids.length*2)) 154)
 new:w<=mb/\w<=fb/\w<=rb/\w<=sx/\w<=sb/\w<=Cb
structure c9z(F:Nat->Prop)(a:Nat)(d:D)(w:World)(a':Act)(w':World)(y:Value):Prop where
 defers:a'.defers=[]
 t2:a'.tmps[2]?=some (.pointer none)
 t3:a'.tmps[3]?=some y
 ko:d.iK.1=none/\d.iK.2.1≠.ok
 disk:o7 w' F a d.iK.2.2
 jU:gI F w w'
 err:Held w' F (λW=>ErrAt W y d.iK.2.1)
variable[To.Lo]{Sh:Nat->Prop}{fn:FuncId}{Q:Exit->Act->World->(Nat->Prop)->Prop}{w:World}
theorem b69{a:fC}(h:d.bF.1=some (e,a)):zk a:=by
 unfold D.bF at h;let⟨⟨b,i,o⟩,f⟩:∃r,d.whole y8=r:=⟨_,rfl⟩;rw[f] at h
 cases i with
 | ok=>
  dsimp at h
  cases c:Go.Proofs.YtgpbhjjajpbeeaaGreatDoor.bF b with
  | none=>grind
  | some r=>
   rw[c] at h;let⟨g,l⟩:=r;injection h with h;injection h with k j;subst j
   exact si c
 | _=>cases h
omit[To.Lo] in
theorem QD(h:d.bF.1=none):d.iK=(none,d.bF.2.1,d.bF.2.2):=by unfold D.iK;obtain⟨⟨o,er,d1⟩,hr⟩:∃r,d.bF=r:=⟨_,rfl⟩;rw[hr] at h⊢;dsimp only at h;subst h;rfl
omit[To.Lo] in
theorem Xm{gen:Nat}{ids:fC}(h:d.bF.1=some (gen,ids))(he:(D.dR ids d.bF.2.2 []).2.1≠.ok):d.iK=(none,(D.dR ids d.bF.2.2 []).2.1,(D.dR ids d.bF.2.2 []).2.2):=by
 unfold D.iK;obtain⟨⟨o,er,d1⟩,hr⟩:∃r,d.bF=r:=⟨_,rfl⟩;rw[hr] at h he⊢;dsimp only at h he⊢;subst h;dsimp only;obtain⟨⟨bss,e2,d2⟩,hr2⟩:∃r,D.dR ids d1 []=r:=⟨_,rfl⟩;rw[hr2] at he⊢;dsimp only at he⊢
 cases e2 with
 | ok=>exact absurd rfl he
 | num n=>rfl
 | file n m=>rfl
omit[To.Lo] in
theorem uW{gen:Nat}{ids:fC}(h:d.bF.1=some (gen,ids))(he:(D.dR ids d.bF.2.2 []).2.1=.ok):d.iK=(some (gen,ids,(D.dR ids d.bF.2.2 []).1),.ok,(D.dR ids d.bF.2.2 []).2.2):=by unfold D.iK;obtain⟨⟨o,er,d1⟩,hr⟩:∃r,d.bF=r:=⟨_,rfl⟩;rw[hr] at h he⊢;dsimp only at h he⊢;subst h;dsimp only;obtain⟨⟨bss,e2,d2⟩,hr2⟩:∃r,D.dR ids d1 []=r:=⟨_,rfl⟩;rw[hr2] at he⊢;dsimp only at he⊢;subst he;rfl
theorem c0o{F:tyP}{T0:dU}(hI:Iv zone Sh Full ⟨T0,[]⟩ w)(hs:T0.size=118)(h0:T0[0]?=some (l9 a))(hD:o7 w F a d)(hds:∀x∈d.ids,(d.node x).data.length<=35184372088832)(hl:Held w F S9)
 (J:∀a' w' y,c9z F a d w a' w' y->Iv zone Sh Full a' w'->Q .ret a' w' Sh)
 (hok:∀T w' m f bss s fb rb sx sb Cb C E vs d2,Hd F a d w T w' m f bss s fb rb sx sb Cb C E vs d2->Iv zone Sh Full ⟨T,[]⟩ w'->mX prog fn (I8 6) Q ⟨T,[]⟩ w' Sh):mX prog fn (I8 0) Q ⟨T0,[]⟩ w Sh:=by
 have r:∀{c:Code},c∈W_->Zn.gV zone c:=yv;rw[c0g];refine Q5 (piece (λw=>QO0 a w) hI (r<|CO) (Zn.fV _) (λτ p=>t0 T0 hs h0 _) ?_);rintro e ⟨T1,ds1⟩ w1 τ p n L q;cases e<;>first|exact q.elim|skip
 obtain⟨q1,q2,q3,q4,q5,q6⟩:=q;dsimp only at q1 q2 q3 q4 q5;subst q1;refine⟨.inl rfl,λhI1 _=>?_⟩;have c1:gI (λ_=>False) w w1:=.eq q6;have hD1:=c1.disk hD λ_ _ h=>h;clear q6;show mX _ _ _ _ _ _ _;rw[c0h];refine Q5 (piece (λw=>QO1 F a d w) hI1 (r<|CO) (Zn.fV _) (λτ p=>t1 T1 q2 q3 q4 q5 F d _ hD1.eU hds) ?_);rintro e ⟨T2,ds2⟩ M τ p n L q;cases e<;>first|exact q.elim|skip
 obtain⟨r1,r2,r3,r4,r5,s,g,v,y,r6,r7,r8,r9,r10,r11,r12⟩:=q;dsimp only at r1 r2 r3 r4 r5 r6 r7;subst r1;refine⟨.inl rfl,λhI2 _=>?_⟩;have I:o7 M F a d.bF.2.2:=r10.oV;have c2:gI F w M:=(c1.less (λ_ _ h=>h.elim)).trans<|.of r11;have Z:=r9;have TU:w.heap.size<=s:=ay c1.size r8;show mX _ _ _ _ _ _ _;rw[c0i];obtain⟨H,e2,e3⟩|⟨m,f,H,e2,rfl,rfl,e5⟩:=r12
 ·have hE:=e3;obtain⟨t,v',rfl⟩:=err_iface hE.get e2;refine Q5 (piece (λw=>b8 (.iface t v') w) hI2 (r<|CO) (Zn.fV _) (λτ p=>t2e T2 r2 r7 _) ?_);rintro e a3 A τ p n L q;cases e<;>first|exact q.elim|skip
  obtain⟨s1,s2,s3,X⟩:=q;refine⟨.inr rfl,λKT _=>J a3 A _ ⟨s1,s2,s3,?_,?_,?_,?_⟩ KT⟩
  rw[QD H];exact⟨rfl,e2⟩
  rw[QD H];exact(gI.eq X).disk I λ_ _ h=>h
  exact c2.trans<|.eq X
  rw[QD H];exact hE.jU (.eq X) I.low
 have G:=b69 H;have Vn:jd M w v f:=H6 e5 c1.size;refine Q5 (piece (λw=>QO2 a s w) hI2 (r<|CO) (Zn.fV _) (λτ p=>t2 T2 r2 r3 r6 r7 _) ?_);rintro e ⟨T3,ds3⟩ A τ p n L q;cases e<;>first|exact q.elim|skip
 obtain⟨s1,s2,s3,X,s5⟩:=q;dsimp only at s1 s2 s3 X;subst s1;refine⟨.inl rfl,λKT _=>?_⟩;have P:gI (λ_=>False) M A:=.eq s5;have N:gI F w A:=c2.trans<|.eq s5;have hD3:=P.disk I λ_ _ h=>h;have Gj:=P.box Z λh=>h;have FY:=P.row Vn λ_ _ h=>h;clear s5 I Z Vn;show mX _ _ _ _ _ _ _;rw[c0j];refine Q5 (piece (λw=>QO3 a s f.length w) KT (r<|CO) (Zn.fV _) (λτ p=>t3 T3 s2 s3 X m v f _ Gj ⟨_,FY⟩ G.1) ?_);rintro e ⟨T4,ds4⟩ z τ p n L q;cases e<;>first|exact q.elim|skip
 obtain⟨u1,u2,u3,u4,u5,fb,rb,u6,u7,u8,u9,u10⟩:=q;dsimp only at u1 u2 u3 u4 u6;subst u1;refine⟨.inl rfl,λUY _=>?_⟩;have q7:gI (λ_=>False) A z:=.ext u5;have K:gI F w z:=N.trans<|.ext u5;have hD4:=q7.disk hD3 λ_ _ h=>h;have TW:=q7.box Gj λh=>h;have FX:=q7.row FY λ_ _ h=>h;have Kz:o6 z fb 128 _:=u9;have l8:=u10;have u7':A.heap.size<=fb:=u7;have u8':A.heap.size<=rb:=u8;have l:=hD.low;have qb8:s<A.heap.size:=Gj.lt;have hne:fb≠rb:=by rintro rfl;unfold o6 at Kz;simp_all
 obtain⟨C,E,rfl⟩:=ownsRow_form FX;have hvl:=λb i=>World.ownsRow.lt FY b i;have hsm:=D.oU d;clear u5 u7 u8 u9 u10 Gj FY hD3;show mX _ _ _ _ _ _ _;rw[c0k];refine Q5 (piece _ UY (r<|CO) (Zn.fV _) (λτ p=>t4 T4 u2 u3 u4 u6 F m C E d.bF.2.2 f _ hD4.eU (λx hx=>by rw[hsm.node];rw[hsm.ids] at hx;exact hds x hx) G (by
  refine Held.and (Held.and (Held.box TW ?_) ?_)<|Held.and (Held.box Kz ?_) ?_
  ·rintro(h|h)
   have:=l s h;omega
   omega
  ·refine(Held.of (jH.row FX) λb i=>⟨(World.ownsRow.lt FX b i).2,?_⟩).mono λW hW=>jd.ints hW;have:=hvl b i;rintro(h|h)
   have:=l b h;omega
   omega
  ·rintro(h|h)
   have:=l fb h;have:=N.size;omega
   exact hne h
  ·obtain⟨S,B,h2⟩:=hl;refine⟨S,λb i=>⟨aF (B b i).1 K.size,?_⟩,λw'' hw=>h2 w'' λb i=>(hw b i).trans<|K.block b (B b i).1 (B b i).2⟩;rintro(h|h)
   exact(B b i).2 h
   have:=(B b i).1;have:=N.size;omega) l8 (λh=>by have:=l rb h;have:=N.size;omega)) ?_);rintro e ⟨T5,ds5⟩ o τ p n L q;have il:∀{τ n p L},iq (λb=>F b\/b=rb) (λb=>F b\/b=rb) (tp z τ p) (tp o n L)->gI F w o:=λh=>have B:gI (λb=>F b\/b=rb) z o:=.of h;⟨B.os.trans K.os,B.output.trans K.output,ay K.size B.size,λb i hF=>(B.block b (aF i K.size) λh=>hF<|(λb i h=>h.elim id λh=>by have:=N.size;omega) b i h).trans<|K.block b i hF⟩
 cases e<;>first|exact q.elim|skip
 obtain⟨v1,v2,v3,U,v5,v6,v7,v8,vs,O,v10⟩:=q;dsimp only at v1 v2 v3 U v5;subst v1;have hD5:o7 o F a _:=v7.oV;have c5:gI F w o:=il v8;have Gw:gI _ z o:=.of v8;have R:∀b,w.heap.size<=b->¬F b:=λb i h=>by have:=l b h;omega
 have TV:=Gw.box TW λh=>h.elim (R s TU) λh=>aj
 have V:zY z o rb f.length vs _:=⟨O.len,O.le,O.row,O.at_⟩;have Wm:=Gw.size;clear v8 O v7;refine⟨.inl rfl,λUW _=>?_⟩;show mX _ _ _ _ _ _ _;rw[c0l];refine Q5 (piece _ UW (r<|CO) (Zn.fV _) (λτ p=>t5 T5 v2 v3 U v5 m C f.length E _ TV G.1) ?_);rintro e ⟨T6,ds6⟩ w6 τ p n L q;cases e<;>first|exact q.elim|skip
 obtain⟨x1,x2,x3,x4,x5,sx,sb,Cb,x6,x7,x8,x9,-,-,-,x10,x11,x12⟩:=q;dsimp only at x1 x2 x3 x4 x6;subst x1;replace x7:o.heap.size<=sx:=x7;replace x8:o.heap.size<=sb:=x8;replace x9:o.heap.size<=Cb:=x9;have Y:gI (λ_=>False) o w6:=.ext x5;refine⟨.inl rfl,λpB _=>hok T6 w6 m f (D.dR f d.bF.2.2 []).1 s fb rb sx sb Cb C E vs (D.dR f d.bF.2.2 []).2.2 ?_ pB⟩;exact{
  ko:=uW H v6
  xI:=G
  hs:=x2
  t4:=x3
  t6:=x4
  t11:=x6
  disk:=Y.disk hD5 λ_ _ h=>h
  jU:=c5.trans<|.ext x5
  hmb:=Y.box TV λh=>h
  pR:=Y.row (Gw.row FX λb i=>have:=hvl b i;λh=>h.elim (R b this.1) λh=>aj) λ_ _ h=>h
  hfb:=Y.box (Gw.box Kz λh=>h.elim (R fb<|ay N.size u7') hne) λh=>h
  hrow:=have k:zY w o rb f.length vs _:=⟨V.len,V.le,V.row,λj u b hu i=>⟨H6 (V.at_ j u b hu i).1 K.size,(V.at_ j u b hu i).2⟩⟩;k.keep (Y.block rb (lt_of_block V.row) λh=>h) λb _ i _=>Y.block b i λh=>h
  KI:=v10
  hsx:=x10
  hsb:=x11
  hcb:=x12
  new:=have:=N.size;have:=c5.size;⟨TU,aj,aj,aj,aj,aj⟩}
 let⟨v1,y,v2,v3,U,v5,v6,v7⟩:=q;refine⟨.inr rfl,λUW _=>J _ o y ⟨v1,v2,v3,?_,?_,il v6,?_⟩ UW⟩
 rw[Xm H U];exact⟨rfl,U⟩
 rw[Xm H U];exact v5.oV
 rw[Xm H U];exact v7
end
section
open Zn (tp Full kH)
open To (mX lS Q5 Iv PO)
section
theorem c0p{d:D}(u:d.Wf)(h:∀x∈d.ids,(d.node x).data.length<=M)(n:Nm):(d.whole n).1.length<=M:=by
 have l:∀(b:D),xY d b->∀i k,(b.jF n i k).1.length<=M:=by
  intro b c i k;unfold D.jF D.find;split
  exact dD _
  rename_i o e p a;split at a
  cases a
  cases j:A7 b.now n with
  | none=>simp_all
  | some x=>
   rw[j] at a;injection a with g q;injection g with g;injection q with q y;subst g y;have s:((b.fails.2).node x).data.length<=M:=by rw[b.oC.node,c.node];exact h x (by have:=Y4 j;rw[c.now] at this;exact u.now _ this)
   unfold Dk.part;rw[dH];omega
 unfold D.whole;let⟨⟨k,e,p⟩,z⟩:∃r,d.size n=r:=⟨_,rfl⟩;have c:=d.rP n;rw[z]
 cases e with
 | ok=>grind
 | _=>simp
theorem c0q:∀(j:fC){d:D}{k:fJ},d.Wf->(∀x∈d.ids,(d.node x).data.length<=M)->(∀l∈k,l.length<=M)->∀l∈(D.dR j d k).1,l.length<=M:=by
 intro j
 induction j with
 | nil=>exactλ_ _ h=>h
 | cons id j v=>
  intro d k m t u;have q:=c0p m t<|y7 D6 id.toNat;have a:=d.nY<|y7 D6 id.toNat;let⟨⟨b,e,c⟩,n⟩:∃r,d.whole (y7 D6 id.toNat)=r:=⟨_,rfl⟩;rw[n] at q a;by_cases s:e=.ok
  subst s;rw[EA n];refine v ⟨?_,?_,?_,?_,?_⟩ (λx o=>?_) λl h=>?_
  intro p f;rw[a.ids];rw[a.now] at f;exact m.now p f
  intro p f;rw[a.ids];rw[a.safe] at f;exact m.safe p f
  intro p f;rw[a.ids];rw[a.moves] at f;exact m.moves p f
  intro p f;rw[a.node];rw[a.ids] at f;exact m.part p f
  rw[a.ids];exact m.ids
  rw[a.node];rw[a.ids] at o;exact t x o
  obtain h|h:=aP.1 h
  exact u l h
  grind
  rw[cQ n s];exact u
theorem xX{w:aB}{b c:Nat}{x y:dU}{e f:bT}{p q:Nat×Nat}(h:w.heap[b]?=some (.cells x e p))(a:w.heap[c]?=some (.cells y f q))(d:e≠f):b≠c:=by grind
def d0f(fb rb:Nat)(a:jl)(b:Nat):Prop:=b=fb\/b=rb\/∃(j:Nat)(u:aX),a[j]?=some u/\u.ownBlock=some b
theorem Hd.ph{F Sh:tyP}{a:Nat}{d J:D}{w w':aB}{T:dU}{x:Nat}{c:fC}{bss:fJ}{Q fb rb P sb Cb:Nat}{K:Option Addr}{y:jl}(h:Hd F a d w T w' x c bss Q fb rb P sb Cb K L y J)
 (W:kH zone Sh w')(U:∀b,Sh b->b<w.heap.size)(R:prog.globals.size<=w)(I:∀l∈bss,l.length<=1099511627776):
 ∃g C,Ph w' Sh Cb fb rb c.length c.length Q P sb g c.length C c bss (d0f fb rb y):=by
 obtain⟨n1,n2,n3,n4,n5,n6⟩:=h.new;have r:∀b,w.heap.size<=b->¬Sh b:=λb m hs=>by have:=U b hs;omega
 have q:=h.hcb;have z:w'.heap[Q]?=some (.cells _ 125):=h.hmb;have o:=h.hfb;have t:w'.heap[P]?=some _:=h.hsx;have A:w'.heap[sb]?=some (.cells _ 138):=h.hsb;have p:=h.hrow.row;have hn:=h.xI.1;have H:∀(j:Nat)(u:aX),y[j]?=some u->∃b,bss[j]?=some b:=λj u N=>by have:=(aJ.1 N).1;rw[h.hrow.len] at this;simp_all
 have n:∃g C,0<c.length->c.length<=C/\g<w'.heap.size/\g≠Cb/\¬Sh g/\(.slice K c.length L:aX)=.slice (some ⟨g,0,none⟩) c.length C/\∀i,i<c.length->w'.cell? ⟨g,i,none⟩=some (.int .i64<|c.getD i 0):=by
  obtain⟨_,M⟩|⟨g,s,G,he,X,m,h1,h2,h3,h4⟩:=h.pR.2
  exact⟨0,0,λh=>aj⟩
  refine⟨g,s,λ_=>⟨h1,Bi.lt_of_some m,xX m q<|dA,r g X,he,λi O=>?_⟩⟩;have B:(c.map<|Value.int .i64)[i]?=some (.int .i64<|c.getD i 0):=by simp_all
  rw[<-h4,fB,if_pos<|aj,eH] at B;simp[World.cell?,m,B]
 obtain⟨g,C,n⟩:=n;refine⟨g,C,W,ay R h.jU.size,⟨aj,ak _,ak _,λh=>(n h).1⟩,o,.inl rfl,?_,?_,?_,?_,?_,?_,?_⟩
 rintro b (rfl|rfl|⟨j,u,N,m⟩)
 refine⟨aj,Bi.lt_of_some o,xX o q<|dA,r _ n2,_,_,_,o,λv f=>?_⟩;obtain rfl:v=.slice (some _) c.length c.length:=by simpa using f
 exact .slice _ _ _ (.inr<|.inl rfl)
 refine⟨aj,Bi.lt_of_some p,xX p q<|dA,r _ n3,_,_,_,p,λv f=>?_⟩;replace f:v∈y++List.replicate (c.length - bss.length) (Value.slice none 0 0):=by simpa using f
 obtain f|f:=aP.1 f
 obtain⟨j,S⟩:=gX f;obtain⟨l,V⟩:=H j v S;let⟨E,Y⟩:=h.hrow.at_ j v l S V;obtain⟨rfl,_⟩|⟨Z,s,G,rfl,_⟩:=E.2
 exact .jv _ _
 exact .slice _ _ _ (.inr<|.inr ⟨j,_,S,rfl⟩)
 rw[List.eq_of_mem_replicate f];exact .jv _ _
 obtain⟨l,V⟩:=H j u N;let⟨E,Y⟩:=h.hrow.at_ j u l N V;obtain⟨rfl,_⟩|⟨Z,s,G,rfl,X,e,_⟩:=E.2
 cases m
 obtain rfl:Z=b:=by simpa [Value.ownBlock] using m
 refine⟨aj,Bi.lt_of_some e,xX e q<|dA,r _ X,_,_,_,e,λv f=>?_⟩;obtain⟨k,rfl⟩:=Y _ _ _ _ rfl e v f;exact .int _ _
 intro i O;have m:i<bss.length:=by rw[h.KI];exact O
 have f:i<y.length:=by rw[h.hrow.len];exact m
 obtain⟨E,-⟩:=h.hrow.at_ i y[i] bss[i] aZ<|au m;refine⟨y[i],?_,?_,?_⟩
 simp[World.cell?,p,bP f,f]
 simpa [au m] using E.bytes
 simp_all
 refine⟨Bi.lt_of_some z,xX z q<|dA,r _ n1,λM=>?_⟩;rw[<-(n M).2.2.2.2.1];simp[World.cell?,z]
 exact⟨Bi.lt_of_some t,xX t q<|dA,r _ n4,by simp[World.cell?,t]⟩
 exact⟨Bi.lt_of_some A,xX A q<|dA,r _ n5,by simp[World.cell?,A]⟩
 exactλM=>let ⟨_,a2,a3,a4,_,a6⟩:=n M;⟨a2,a3,a4,a6⟩
 refine⟨r _ n6,_,q,?_⟩;simp[madeCells];omega
end
end
section
open Zn (tp Full kH VP Zf Le)
open To (mX lS Q5 Iv PO To at_)
structure Jn(w:World)(Sh:Nat->Prop)(Cb n:Nat)(ids:List Int)(bss:List (List UInt8))(T:Array Value)(T':Array Value)(w':World)(Sh':Nat->Prop):Prop where
 hs:T'.size=118
 t11:T'[11]?=T[11]?
 t12:T'[12]?=some (.pointer (some w))
 al:∃v:Int,w'.heap[w.heap.size]?=some (.cells #[.int .i64 v] 143)
 bY:Jf w' Cb n ids bss
 FP:∀i u g,i<n->w'.cell? ⟨Cb,2*i+1,none⟩=some u->u.ownBlock=some g->w.heap.size<=g
 old:∀e,e<w.heap.size->e≠Cb->w'.heap[e]?=w.heap[e]?
 size:w.heap.size<=w'
 os:w'.os=w.os
 output:w'.output=w.output
 gC:∀b,Sh b->Sh' b
 A_:∀b,b<w.heap.size->Sh' b->Sh b
def ShJ(w w':aB)(Sh:tyP)(n:Nat)(O:Nat->Nat->Prop)(bx:Nat->Nat)(b:Nat):Prop:=Sh b\/(w.heap.size+1<=b/\b<w'/\¬∃i,i<n/\(O i b\/b=bx i))
theorem c3I{w w':aB}{Sh:tyP}{Cb n:Nat}{E:fC}{bss:fJ}{O:Nat->Nat->Prop}{bx:Nat->Nat}(W:kH zone Sh w)(hC:¬Sh Cb)(zU:Cb<w)
 (D:∀e,e<w.heap.size->e≠Cb->w'.heap[e]?=w.heap[e]?)(L:∀i,i<n->yY w Sh Cb E bss i (bx i) (O i) w')(Y:∀i b,O i b->w.heap.size+2<=b/\b<w'.heap.size)
 (C:∃v:Int,w'.heap[w.heap.size]?=some (.cells #[.int .i64 v] 143))(G:∃cs:dU,w'.heap[Cb]?=some (.cells cs 154)/\cs.size=2*n)(Q:w.heap.size+2<=w'):kH zone (ShJ w w' Sh n O bx) w':=by
 have m:∀b,b<w.heap.size->ShJ w w' Sh n O bx b->Sh b:=λb z h=>h.elim id λh=>aj
 have t:∀i b,i<n->(O i b\/b=bx i)->b<w'.heap.size/\¬ShJ w w' Sh n O bx b:=λi b l h=>by
  have z:=h.elim (Y i b) λe=>by obtain⟨-,-,-,p,R⟩:=L i l;rw[e];exact⟨p,Bi.lt_of_some R⟩
  refine⟨z.2,?_⟩;rintro(f|⟨-,-,N⟩)
  have:=W.sh b f;omega
  simp_all
 refine⟨λb o z f a=>?_,λb h=>?_,λb h=>?_⟩
 by_cases r:b<w
 by_cases s:b=Cb
 subst s;let⟨cs,j,B⟩:=G;rw[j] at a;injection a with a;subst a;refine .cells _ _ _ λv M=>?_;obtain⟨k,T,rfl⟩:=gG.1 M;have l:k/2<n:=aj
 obtain⟨y,⟨u,A,J,X⟩,-⟩:=L (k/2) l;have d:w'.cell? ⟨b,k,none⟩=some cs[k]:=by simp[World.cell?,j,T]
 obtain S|S:=Nat.mod_two_eq_zero_or_one k
 have e:2*(k/2)=k:=aj
 rw[e,d] at y;injection y with y;rw[y];exact .int _ _
 have e:2*(k/2)+1=k:=aj
 rw[e,d] at A;injection A with A;rw[A];obtain⟨rfl,_⟩|⟨g,P,F,fr,rfl,_⟩:=J.2
 exact .jv _ _
 exact .slice _ _ _ (t _ g l (.inl<|X g rfl))
 rw[D b r s] at a;exact(W.obj b o r (λh=>f<|.inl h) a).mono (⟨rfl,rfl,rfl,λb h=>⟨aF h.1<|aj,λf=>h.2<|m b h.1 f⟩⟩:Le (Zf zone Sh _) (Zf zone (ShJ w w' Sh n O bx) _))
 by_cases K:b=w
 subst K;let⟨v,j⟩:=C;rw[j] at a;injection a with a;subst a;refine .cells _ _ _ λx I=>?_;obtain rfl:x=.int .i64 v:=iL
 exact .int _ _
 let⟨i,l,h⟩:=(bW λh=>f<|.inr ⟨aj,z,h⟩);obtain⟨-,-,J,-,Z⟩:=L i l;obtain h|rfl:=h
 let⟨o',j,B⟩:=J b h;rw[j] at a;injection a with a;subst a;exact Zn.je.mono (by
  refine⟨rfl,rfl,rfl,λc q=>?_⟩;obtain⟨V,H,U⟩|h:=q
  exact⟨aj,λf=>U<|m c V f⟩
  exact t i c l h.symm) B
 rw[Z] at a;injection a with a;subst a;refine .cells _ _ _ λx I=>?_;obtain rfl:x=.int .i64 i:=iL
 exact .int _ _
 obtain h|h:=h
 have:=W.sh b h;omega
 omega
 let⟨j,B⟩:=W.base b h;exact⟨aj,λf=>B<|m b j f⟩
theorem c9A(h:fX k=true)(b:k≠12):kb k=true:=by
 cases a:kb k with
 | true=>rfl
 | false=>
  unfold kb at a;simp at a;exfalso;have a:k=12\/k=13\/k=14\/k=70\/k=71\/k=72\/k=73\/k=74\/k=75\/k=76\/k=77\/k=78:=aj
  obtain rfl|rfl|rfl|rfl|rfl|rfl|rfl|rfl|rfl|rfl|rfl|rfl:=a;all_goals trivial
variable[Go.ConcR.Payload][To.Lo]
theorem c0r{Sh:tyP}{Q:Exit->Act->World->(Nat->Prop)->Prop}{w:aB}{Cb fb rb n fc P R sb ic c1 c2:Nat}{bss:fJ}{DB:tyP}{T:dU}(h:Ph w Sh Cb fb rb n fc P R sb ic c1 c2 f bss DB)(U:Iv zone Sh Full ⟨T,[]⟩ w)
 (hT:T.size=118)(h4:T[4]?=some (.pointer (some P)))(h6:T[6]?=some (.pointer (some fb)))(D:T[11]?=some (.pointer (some R)))
 (j:∀T' w' e,Jn w Sh Cb n f bss T T' w' e->Iv zone e (λk=>fX k=true) ⟨T',[]⟩ w'->mX prog 14 (I8 10) Q ⟨T',[]⟩ w' e):mX prog 14 (I8 6) Q ⟨T,[]⟩ w Sh:=by
 intro b K cs Ψ s B hc;obtain⟨p,E,z,G⟩:=h.hcb;obtain⟨df1,W,F,df4,-⟩:=h.hDB fb h.NS;have N:∀(a:Act)(k:List Item),b.at a k=(base 14).at a k:=λa k=>by unfold Frame.at;rw[s,B];rfl
 rw[N];refine b7u h.W.sh h.bi df4 ⟨E,z,G⟩ p F h.hn.1 ym hT h4 h6 D (λc i b w' Z a2 a3 a4 a5 a6 X a8=>c0B (λb s=>s.2) h Z a2 a3 a4 a5 a6 X a8) ?_;intro w' T' O o m x A J S q M I H C;have v:∀b,b<w.heap.size->ShJ w w' Sh n O o b->Sh b:=λb s h=>h.elim id λh=>aj
 have L:¬ShJ w w' Sh n O o w.heap.size:=λh=>h.elim (λh'=>by have:=U.W.sh _ h';omega) λh=>aj
 refine⟨ShJ w w' Sh n O o,λb h=>.inl h,.inr ⟨ak _,aj,?_⟩,?_⟩
 ·rintro⟨i,y,h|h⟩
  have:=J i _ h;omega
  have:=(A i y).2.2.2.1;omega
 unfold joined;refine To.move rfl (λ_=>stepG_region_end) ?_;rw[<-N];have g:∀k,k≠78->(T'.setIfInBounds 78<|.tuple #[])[k]?=T'[k]?:=λk B=>bf<|dI B;refine j _ w' (ShJ w w' Sh n O o) ⟨by simp[m.size],?_,?_,q,?_,?_,x,aj,H,C,λb h=>.inl h,v⟩ ⟨λt V=>?_,λd S=>(by cases S),c3I h.W p (Bi.lt_of_some z) x A J q M I⟩ b K cs Ψ s B hc
 exact(g 11<|dA).trans (m.keep 11<|dA)
 exact(g 12<|dA).trans m.t12
 intro i y;obtain⟨r1,⟨u,l,Y,-⟩,-⟩:=A i y;exact⟨r1,u,l,Y⟩
 intro i u g y hu hg;obtain⟨-,⟨u',l,-,r4⟩,-⟩:=A i y;rw[hu] at l;injection l with l;subst l;have:=J i g<|r4 g hg;omega
 rw[aV,g t (by rintro rfl;revert V;decide)];by_cases r:t=12
 subst r;rw[m.t12];exact .ptr _ ⟨by show w.heap.size<_;omega,L⟩
 rw[m.keep t (c9A V r),<-aV];exact(U.tmps t trivial).mono (⟨rfl,rfl,rfl,λb h=>⟨aF h.1<|aj,λhs=>h.2<|v b h.1 hs⟩⟩:Le (Zf zone Sh _) (Zf zone (ShJ w w' Sh n O o) _))
end
section
open Zn (tp Full kH VP Zf Le)
open To (mX lS Q5 Iv PO To at_ Jb bodyT)
variable{w:aB}{a g i n:Nat}{F J:tyP}
def Df(W:aB)(sb a:Nat)(c:Nat)(b:fC)(bss:fJ):Prop:=
 ∃(f:Option Addr)(e d r:Nat)(v:Int),o6 W sb 138 #[l9 a,.int .u64 c,.slice f b.length e,.slice (some ⟨d,0,none⟩) b.length b.length,.map (some r),.int .i64 v]/\Ints W (.slice f b.length e) b/\Jf W d b.length b bss/\vH W r (O9 bss b.length)/\bss.length=b.length
def Jf.frame{w':aB}{Cb:Nat}{a:fC}{bss:fJ}(h:Jf w Cb n a bss)(d:w'.heap[Cb]?=w.heap[Cb]?)(j:∀i u g,i<n->w.cell? ⟨Cb,2*i+1,none⟩=some u->u.ownBlock=some g->w'.heap[g]?=w.heap[g]?):Jf w' Cb n a bss:=λi c=>have⟨e,u,b,f⟩:=h i c;⟨(World.cell?_of_block d).trans e,u,(World.cell?_of_block d).trans b,f.keep λg k=>j i u g c b k⟩
theorem Jf.ty{Cb:Nat}{c:fC}{bss:fJ}(h:Jf w Cb n c bss){u:aX}(j:i<n)(k:w.cell? ⟨Cb,2*i+1,none⟩=some u)(d:u.ownBlock=some g):∃a fr,w.heap[g]?=some (.cells a 160 fr):=by
 obtain⟨-,o,b,m⟩:=h i j;rw[k] at b;injection b with b;subst b;obtain⟨rfl,_⟩|⟨l,e,a,fr,rfl,f,_⟩:=m.2
 cases d
 obtain rfl:l=g:=by simpa [Value.ownBlock] using d
 grind
structure Zp(F Sh:Nat->Prop)(a:Nat)(d:D)(w:World)(v:Value)(w':World)(Sh':Nat->Prop):Prop where
 W:kH zone Sh' w'
 up:∀b,Sh b->Sh' b
 old:∀b,b<w.heap.size->Sh' b->Sh b
 vp:VP (Zf zone Sh' w') v
 jU:gI F w w'
 disk:o7 w' F a d.iK.2.2
 res:(d.iK.1=none/\d.iK.2.1≠.ok/\∃y,v=.tuple #[.pointer none,y]/\Held w' F (λW=>ErrAt W y d.iK.2.1)) ∨
  (∃sb gen ids bss,d.iK.1=some (gen,ids,bss)/\d.iK.2.1=.ok/\zk ids/\v=.tuple #[.pointer (some ⟨sb,0,none⟩),.nilIface]/\Held w' F (λW=>Df W sb a gen ids bss))
section
theorem c0s[To.Lo]{Sh:tyP}{d d2:D}{I:aB}{T:dU}{bss:fJ}{mb fb rb H sb Cb:Nat}{v:Option Addr}{vs:jl}(h:Hd F a d w T I n f bss mb fb rb H sb Cb v A vs d2)(U:∀b,F b->b<w.heap.size)(hSh:∀b,Sh b->b<w.heap.size)
 {T':dU}{w2:aB}(l:Jn I Sh Cb f.length f bss T T' w2 J)(hI:Iv zone J (λk=>fX k=true) ⟨T',[]⟩ w2):mX prog 14 (I8 10) (bodyT prog f14 (Zp F Sh a d w)) ⟨T',[]⟩ w2 J:=by
 obtain⟨n1,n2,n3,n4,n5,n6⟩:=h.new;have yR:=h.hcb;have o:∀{c:Code},c∈W_->Zn.gV zone c:=yv;have B:∀{c:Code},c∈[N9 10,N9 11,N9 12,I8 13]->Zn.iW (λk=>fX k=true) c:=c3H;have V:I.heap[H]?=some _:=h.hsx;have O:=h.hsb;have Yx:=xX O yR dA;have RE:=xX V O dA;have TI:=(l.old H (Bi.lt_of_some V) (xX V yR dA)).trans V;have Gg:o6 w2 sb 138 _:=(l.old sb (Bi.lt_of_some O) Yx).trans O;have P:∀b,(Value.slice v f.length A).ownBlock=some b->w.heap.size<=b/\b<I.heap.size/\b≠Cb/\b≠sb:=λb j=>by
  rcases h.pR.2 with⟨e,_⟩|⟨g,cap,S,e,y,G,_⟩
  rw[e] at j;cases j
  rw[e] at j;obtain rfl:g=b:=by simpa [Value.ownBlock] using j
  exact⟨y,Bi.lt_of_some G,xX G yR dA,xX G O dA⟩
 obtain⟨L,hal⟩:=l.al;have c2:gI F w w2:=⟨l.os.trans h.jU.os,l.output.trans h.jU.output,ay h.jU.size l.size,λb j Y=>(l.old b (aF j h.jU.size) aj).trans (h.jU.block b j Y)⟩;rw[b65];refine Q5 (piece _ hI (o CO) (B aZ) (λτ p=>t10 T' l.hs (l.t11.trans h.t11) l.t12 _ _ _ _ _ _ L 143 _ TI Gg hal) ?_);rintro e ⟨T3,ds3⟩ w3 τ p N p' q;cases e<;>first|exact q.elim|skip
 obtain⟨q1,q2,q3,q4,X⟩:=q;dsimp only at q1 q2 q3;subst q1;have c3:gI (λb=>b=sb) w2 w3:=⟨X.os,X.output,fE X.size.symm,λb _ j=>X.block b j⟩;clear X;refine⟨.inl rfl,λKT _=>?_⟩;have TG:=c3.box TI RE;show mX _ _ _ _ _ _ _;rw[b66];refine Q5 (piece _ KT (o<|CO) (B<|aZ) (λτ p=>t11 T3 q2 q3 _ _ _ _ _ L _ TG q4) ?_);rintro e ⟨T4,ds4⟩ R τ p N p' q;cases e<;>first|exact q.elim|skip
 obtain⟨r1,r2,r3,r4,r,r5,r6,r7⟩:=q;dsimp only at r1 r2 r3;subst r1;have c4:gI (λb=>b=sb) w3 R:=.of r4;replace r5:w3.heap.size<=r:=r5;replace r7:vH R r []:=r7;clear r4;refine⟨.inl rfl,λUY _=>?_⟩;have TF:=c4.box TG RE;have m:=c3.trans c4;have Ld:Cb<w2.heap.size:=aF (Bi.lt_of_some yR) l.size;have s1:I.heap.size<=r:=ay l.size<|ay c3.size r5;have J_:r≠H/\r≠sb:=by have:=Bi.lt_of_some V;have:=Bi.lt_of_some O;omega
 show mX _ _ _ _ _ _ _;rw[b67];refine Q5 (piece _ UY (o<|CO) (B<|aZ) (λτ p=>t12 T4 r2 r3 _ _ _ _ f bss _ TF r6 ⟨ak _,by have:=h.xI.1;omega⟩ (l.bY.frame (m.block Cb Ld<|dI Yx) λi u g E C y=>have⟨S,fr,G⟩:=l.bY.ty E C y;m.block g (Bi.lt_of_some G) (xX G (Gg)<|dA)) r7 J_) ?_);rintro e ⟨T5,ds5⟩ w5 τ p N p' q;cases e<;>first|exact q.elim|skip
 obtain⟨u1,u2,u3,u4,K⟩:=q;dsimp only at u1 u2 u3;subst u1;have M:gI (λb=>b=r) R w5:=.of u4;replace K:=K;clear u4;refine⟨.inl rfl,λUW _=>?_⟩;refine piece (λw=>QO9 sb w) UW (o<|CO) (B<|aZ) (λτ p=>t13 T5 u2 u3 _ (M.box TF<|dI J_.1)) ?_;rintro e a6 t τ p N p' q;cases e<;>first|exact q.elim|skip
 obtain⟨v1,v2,v3,v4⟩:=q;have Q:gI (λ_=>False) w5 t:=.eq v4;refine⟨.inr rfl,λpB _=>⟨v1,_,resultsC_tmp2 rfl a6.tmps,?_⟩⟩;rw[I7 v2,I7 v3];have z2r:=ay c3.size r5;have s:=λb j Y=>(Q.block b (aF j<|ay m.size M.size) λh=>h).trans ((M.block b (aF j m.size)<|aj).trans<|m.block b j Y)
 have z12:=l.size;have P1:=h.jU.size;have UR:=K.block<|Q.block r (by obtain⟨es,c,Z,-⟩:=K;exact Bi.lt_of_some Z) λh=>h;have gk:∀i u g,i<f.length->w2.cell? ⟨Cb,2*i+1,none⟩=some u->u.ownBlock=some g->w.heap.size<=g/\g<w2.heap.size/\g≠sb:=λi u g E C y=>have⟨S,fr,G⟩:=l.bY.ty E C y;⟨ay P1<|l.FP i u g E C y,Bi.lt_of_some G,xX G (Gg)<|dA⟩
 have lP:=Bi.lt_of_some O;exact{
  W:=pB.W
  up:=l.gC
  old:=λb j hs=>l.A_ b (aF j P1) hs
  vp:=by
   refine .tuple _ λx hx=>?_;obtain rfl|rfl:=(by simpa using hx)
   exact .ptr _ ⟨by show sb<_;omega,λhs=>by have:=hSh sb<|l.A_ sb lP hs;omega⟩
   exact .nilIface
  jU:=⟨Q.os.trans (M.os.trans<|m.os.trans c2.os),Q.output.trans (M.output.trans<|m.output.trans c2.output),aj,λb j Y=>(s b aj<|aj).trans<|c2.block b j Y⟩
  disk:=by rw[h.ko];exact (h.disk.frame (λb j=>l.old b (aF (U b j) h.jU.size) λe=>by have:=U b j;omega) l.size).frame (λb j=>s b (by have:=U b j;omega)<|by have:=U b j;omega) (ay m.size<|ay M.size Q.size)
  res:=by
   refine .inr ⟨sb,n,f,bss,by rw[h.ko],by rw[h.ko],h.xI,rfl,λb=>w.heap.size<=b/\b<t.heap.size,λb j=>⟨j.2,λhf=>by have:=U b hf;omega⟩,λW hw=>?_⟩;have z:=λb Z h2=>hw b ⟨Z,h2⟩;refine⟨v,A,Cb,r,L,(z sb n5<|aj).trans (Q.box (M.box r6<|dI J_.2) λh=>h),jd.ints (jH.row (jH.row (jH.row h.pR w2 λb j=>l.old b (P b j).2.1 (P b j).2.2.1) t λb j=>s b (by have:=P b j;omega) (P b j).2.2.2) W λb j=>z b (P b j).1<|by have:=P b j;omega),?_,UR.block<|z r aj (by obtain⟨es,c,Z,-⟩:=UR;exact Bi.lt_of_some Z),h.KI⟩;exact (l.bY.frame (s Cb Ld<|dI Yx) λi u g E C y=>s g (gk i u g E C y).2.1 (gk i u g E C y).2.2).frame (z Cb n6<|aj) λi u g E C y=>by rw[(λk=>World.cell?_of_block (s Cb Ld<|dI Yx))] at C;have:=gk i u g E C y;exact z g this.1 aj}
theorem c0t[Go.ConcR.Payload][To.Lo]{Sh:tyP}{d:D}(W:kH zone Sh w)(u:prog.globals.size<=w)(N:VP (Zf zone Sh w) (l9 a))(B:o7 w F a d)(j:∀x∈d.ids,(d.node x).data.length<=1099511627776)(v:Held w F S9):
 Jb prog 14 #[l9 a] w Sh (Zp F Sh a d w):=by
 refine⟨f14,I8 0,func14,aW,aW,?_⟩;have V:f14.ntmps=118:=aW
 rw[V];apply c0o (by
  refine⟨λt _=>?_,λd U=>(by cases U),W⟩;rw[aV,mD];split
  rename_i h;obtain rfl:t=0:=by simpa using h
  exact N
  rw[kV];split
  exact Zn.jI
  exact Zn.jI) aZ aZ B (λx A=>ay (j x A) dA) v
 intro K S y e b;refine⟨e.defers,_,resultsC_tmp2 rfl K.tmps,?_⟩;rw[I7 e.t2,I7 e.t3];have H:=b.tmps 3 trivial;rw[I7 e.t3] at H;exact⟨b.W,λ_ h=>h,λ_ _ h=>h,.tuple _ λx A=>by
  obtain rfl|rfl:=(by simp_all:x=.pointer none\/x=y)
  exact .kK
  exact H,e.jU,e.disk,.inl ⟨e.ko.1,e.ko.2,y,rfl,e.err⟩⟩
 intro T S M I z Q X s Z sb Cb q n vs d2 h b;let⟨g,k,L⟩:=h.ph b.W W.sh u (by
  have f:=h.ko;have c:=D.oU d
  cases o:d.bF.1 with
  | none=>rw[QD o] at f;cases f
  | some r=>
   let⟨g,l⟩:=r;cases E:(D.dR l _ []).2.1 with
   | ok=>
    rw[uW o E] at f;injection f with p Y;injection p with p;injection p with p G;injection G with G J;rw[<-J]
    exact c0q l (have i:=B.wf;⟨by rw[c.now,c.ids];exact i.now,by rw[c.safe,c.ids];exact i.safe,by rw[c.moves,c.ids];exact i.moves,by rw[c.node,c.ids];exact i.part,by rw[c.ids];exact i.ids⟩) (by rw[c.ids,c.node];exact j) λl v=>by cases v
   | _=>rw[Xm o iL] at f;cases f);exact c0r L b h.hs h.t4 h.t6 h.t11 λR w2 P O C=>c0s h B.low W.sh O C
end
end
section
open Zn (tp Full kH VP Zf Le)
def Code.fst:Code->Code|.seq a _=>a|c=>c
def Code.snd:Code->Code|.seq _ b=>b|c=>c
def Code.ops:Code->Array Oper|.region _ ops _=>ops|_=>#[]
section
variable{ρ:Operand->Value}{x y:Operand}
theorem o4{i:Nat}{c:dU}{v V:aX}(h:ρ x=V)(hV:V=.tuple c)(hc:c[i]?=some v):Runs prog ρ (.extract x i) v:=λo ho w=>by subst hV;constructor<;>simp[go_sem,execOp,ho,h,hc]
end
section
variable{w:World}{F:Nat->Prop}{a:Nat}{D:Dk.D}
def Held.eU(h:Held w F Φ):Held (tp w τ p) F Φ:=let ⟨S,h1,h2⟩:=h;⟨S,h1,h2⟩
def gI.any{w':aB}(c:gI (λ_=>False) w w'):gI F w w':=c.less λ_ _ h=>h.elim
end
end
section
open Zn (tp Full kH VP Zf Le)
def AN(n:Nat)(x:Nat->Value):Array Value:=((List.range n).map x).toArray
theorem IZ(n:Nat)(T:dU)(b:T.size=n):∃x,T=AN n x/\∀k v,T[k]?=some v->x k=v:=by refine⟨_,ZP (λ_=>rfl) T b,λk v a=>?_⟩;simp_all
def S1(s c d1 a d b x y:Nat):List (Option Nat×Op×Option (Nat×Bool)):=
 [(some c,.move (.tmp s),none),(some d1,.call {callee:=.value (.func 14),args:=#[.tmp c],argTypes:=#[30]},none),(some a,.move (.tmp d1),none),(some d,.extract (.tmp a) 0,none),(some b,.extract (.tmp a) 1,none),(some x,.assign (.tmp d),none),(some y,.assign (.tmp b),none)]
theorem Dj{ops:Array Oper}{l:List (Option Nat×Op×Option (Nat×Bool))}(h:ops.toList.map (λo=>(o.dst,o.op,o.guard))=l){i d:Nat}{op:Op}{g:Option (Nat×Bool)}(a:l[i]?=some (some d,op,g)):I_ ops i d op g:=by refine .of ?_;grind
section
variable[Go.ConcR.Payload][To.Lo]{Sh F:Nat->Prop}{w:World}{T:Array Value}{Q:Exit->Act->World->(Nat->Prop)->Prop}{a:Nat}{D:Dk.D}{fn:FuncId}{ops:Array Oper}{X:Tmp->Prop}
theorem P'(n s G d1 C p q x y:Nat){id:Nat}(j:ops.toList.map (λo=>(o.dst,o.op,o.guard))=S1 s G d1 C p q x y)(hn:([G,d1,C,p,q,x,y].all (· < n)&&decide (C≠p/\p≠q/\q≠x/\x≠y))=true)
 (hI:Iv zone Sh X ⟨T,[]⟩ w)(hT:T.size=n)(h6:T[s]?=some (l9 a))(Y:VP (Zf zone Sh w) (l9 a))(P:prog.globals.size<=w)(hD:o7 w F a D)(I:∀x∈D.ids,(D.node x).data.length<=1099511627776)(hl:Held w F S9)
 (m:∀u v w' f T',Zp F Sh a D w (.tuple #[u,v]) w' f->T'.size=n->T'[x]?=some u->T'[y]?=some v->(∀k,k∉[G,d1,C,p,q,x,y]->T'[k]?=T[k]?)->Iv zone f X ⟨T',[]⟩ w'->Q .normal ⟨T',[]⟩ w' f):mX prog fn (.region id ops false) Q ⟨T,[]⟩ w Sh:=by
 have S:=by have:=congrArg List.length j;simpa [S1] using this
 simp[List.all_cons,List.all_nil,aI,bZ,Bool.and_true] at hn;let⟨⟨l0,l1,l2,l3,l4,l5,l6⟩,L,R,e4x,U⟩:=hn;apply QC;rw[S];refine uK (Dj j rfl) tN hT l0 (Jt<|O7 h6) λT1 s1 E k1=>?_;refine cH (Post:=Zp F Sh a D w) (Dj j rfl) s1 l1 ?_ λv w' f T2 l s2 V k2=>?_
 have e:(#[Operand.tmp G]).map (Act.eval ⟨T1,[]⟩)=#[l9 a]:=by simp[fM,bD,dS];rw[O7 E]
 rw[e];exact c0t hI.W P Y hD I hl
 obtain⟨u,v,rfl⟩:∃x y,v=.tuple #[x,y]:=by
  obtain⟨_,_,y,h,_⟩|⟨sb,gen,ids,bss,_,_,_,h,_⟩:=l.res
  exact⟨_,_,h⟩
  simp_all
 have i:VP (Zf zone f w') u/\VP (Zf zone f w') v:=by
  have:=l.vp
  cases this<;>simp_all
 refine uK (Dj j rfl) tN s2 l2 (Jt<|O7 V) λT3 s3 M Z=>?_;refine uK (Dj j rfl) tN s3 l3 (o4 (O7 M) rfl rfl) λT4 s4 J H=>?_;refine uK (Dj j rfl) tN s4 l4 (o4 (O7<|(H C L).trans M) rfl rfl) λT5 s5 W N=>?_;refine uK (Dj j rfl) tN s5 l5 (MR (O7<|(N p R).trans J)) λT6 s6 c O=>?_;refine uK (Dj j rfl) tN s6 l6 (MR (O7<|(O q e4x).trans W)) λT7 s7 g7 K=>?_;have r:Le (Zf zone Sh _) (Zf zone f _):=⟨rfl,rfl,rfl,λb h=>⟨aF h.1 l.jU.size,λhs=>h.2<|l.old b h.1 hs⟩⟩;refine Qg<|m u v w' f T7 l s7 ((K x U).trans c) g7 (λk hk=>?_) ⟨λt ht=>?_,λd hd=>(by cases hd),l.W⟩
 simp only[bI,not_or] at hk;obtain⟨q0,q1,q2,q3,q4,q5,q6,-⟩:=hk;exact(K k q6).trans iL
 have g:∀{A B:Array _}{d:Nat}{z:aX},B[d]?=some z->(∀k,k≠d->B[k]?=A[k]?)->VP (Zf zone f w') z->VP (Zf zone f w') (A.getD t undef)->VP _ (B.getD t undef):=λ{A B d z}h1 h2 hz hA=>by
  rw[aV] at hA⊢;by_cases e:t=d
  subst e;rw[h1];exact hz
  simp_all
 exact g g7 K i.2 (g c O i.1 (g W N i.2 (g J H i.1 (g M Z l.vp (g V k2 l.vp (g E k1 (Y.mono r)<|(hI.tmps t ht).mono r))))))
end
section
variable[To.Lo]{Sh F:Nat->Prop}{w:World}{T:Array Value}{Q:Exit->Act->World->(Nat->Prop)->Prop}{fn:FuncId}{ops:Array Oper}{X:Nat->Bool}{n i d:Nat}{rest:List Nat}{v:Value}{op:Op}{g:Option (Nat×Bool)}
theorem GV{T':dU}(a:Iv zone Sh (λk=>X k=true) ⟨T,[]⟩ w)(f:T'[d]?=some v)(c:∀k,k≠d->T'[k]?=T[k]?)(b:X d=true->VP (Zf zone Sh w) v):Iv zone Sh (λk=>X k=true) ⟨T',[]⟩ w:=a.keep λk g=>by
 by_cases e:k=d
 subst e;exact .inr ⟨_,f,b g⟩
 grind
theorem tG{a:tyP}{w':aB}{T':dU}(n:Iv zone Sh (λk=>X k=true) ⟨T,[]⟩ w)(i:kH zone a w')(p:w.heap.size<=w')(o:∀b,b<w.heap.size->a b->Sh b)(m:T'[d]?=some v)(g:∀k,k≠d->T'[k]?=T[k]?)(j:X d=true->VP (Zf zone a w') v):Iv zone a (λk=>X k=true) ⟨T',[]⟩ w':=by
 refine⟨λt f=>?_,λd q=>(by cases q),i⟩;rw[aV];by_cases e:t=d
 subst e;rw[m];exact j f
 rw[g t e,<-aV];exact(n.tmps t f).mono (⟨rfl,rfl,rfl,λb h=>⟨aF h.1 p,λl=>h.2<|o b h.1 l⟩⟩:Le (Zf _ Sh _) (Zf _ a _))
end
section
variable{ρ:Operand->Value}{x y:Operand}
end
end
theorem Held.laid{w0 d:aB}{F:tyP}(h:Laid w0)(i:Ext w0 d)(j:∀b,F b->w0.heap.size<=b):Held d F Laid:=by
 have c:0<w0.heap.size:=bW λm=>by unfold Laid World.cell? at h;grind
 refine .of (S:=λb=>b=0) (λn k=>?_) λb e=>by subst e;exact⟨aF c i.size,λl=>fU⟩
 have f:=Laid.ext h i;unfold Laid World.cell? at f⊢;grind
theorem Held.lift{w0 e:aB}{F:tyP}(h:Held w0 (λ_=>False) Φ)(f:Ext w0 e)(k:∀b,F b->w0.heap.size<=b):Held e F Φ:=have⟨S,d,j⟩:=h;⟨S,λb a=>⟨aF (d b a).1 f.size,λc=>by have:=k b c;have:=(d b a).1;omega⟩,λi g=>j i λb a=>(g b a).trans (f.block b (d b a).1)⟩
structure xk(w0:World)(a k:Nat)(F:Nat->Prop)(E:D)(wr:World):Prop where
 disk:o7 wr F a E
 built:E.Built k
 ext:Ext w0 wr
 low:∀b,F b->w0.heap.size<=b
def xk.to{w0:aB}{a k:Nat}{F:tyP}{E:D}{b w':aB}(h:xk w0 a k F E b)(c:Ext b w'):xk w0 a k F E w':=⟨h.disk.ext c,h.built,h.ext.trans c,h.low⟩
def xk.more{w0:aB}{a m:Nat}{F:tyP}{b:aB}(h:xk w0 a k F E b)(c:k<=m):xk w0 a m F E b:=⟨h.disk,h.built.more c,h.ext,h.low⟩
theorem xk.file{w0:aB}{a:Nat}{F:tyP}{nm:Nm}{d w':aB}{e:Ending}(h:xk w0 a k F E d)(p:Zt F a (k+1) E nm l d e w'):∃F' c,xk w0 a (k+1) F' c w'/\iq F F' d w'/\∀n,c.file n=if n=nm/\E.file nm=none then some l else E.file n:=by
 obtain⟨-,F',c,m,o,f,g,q⟩:=p;refine⟨F',c,⟨m,o,?_,λb j=>?_⟩,g,f⟩
 exact h.ext.trans' (g.below h.low h.ext.size)
 obtain i|i:=g.grow b j
 exact h.low b i
 have:=h.ext.size;omega
theorem VV(a:Nm)(k:Nat):(y7 a k).length=a.length+6:=by simp[y7]
def c0C(b:ByteArray):bJ b.data.toList=.string b:=rfl
structure Ae(n0:Nat)(F:Nat->Prop)(v:Value)(l:List Int)(w:World):Prop where
 own:jd w n0 v l
 off:∀b,v.ownBlock=some b->¬F b
def Ae.held{c:Nat}{F:tyP}{v:aX}{l:fC}{w:aB}(h:Ae c F v l w):Held w F (λW=>jd W c v l):=
 .of (.row h.own) λb a=>⟨(World.ownsRow.lt h.own b a).2,h.off b a⟩
theorem Ae.step{d:Nat}{F F':tyP}{v:aX}{l:fC}{w w':aB}(h:Ae d F v l w)(c:iq F F' w w'):Ae d F' v l w':=
 ⟨(h.held.step c).get,λb a e=>(c.grow b e).elim (h.off b a) λf=>by have:=(World.ownsRow.lt h.own b a).2;omega⟩
def Ae.to{a:Nat}{F:tyP}{v:aX}{l:fC}{w w':aB}(h:Ae a F v l w)(b:Ext w w'):Ae a F v l w':=h.step (.ext b)
theorem c6B(k:Nat):y7 D6 k≠y8:=λh=>by have:=congrArg List.length h;simp[y7,D6,y8] at this
def rB(d:Dr)(b:dV):Prop:=∀g a,bF b=some (g,a)->∀x∈a,∃s∈d.bY,x=(IY s.id:Int)
def LV(d:Dr)(E:D):Prop:=d.without=false->d.spoilt=[]->∃a,E.file y8=some a/\rB d a
theorem LV.file{d:Dr}{a:D}{nm:Nm}(h:LV d E)(c:∀n,a.file n=if n=nm/\E.file nm=none then some l else E.file n):LV d a:=λg f=>by let⟨b,e,i⟩:=h g f;grind
structure Zu(dr:Dr)(d:D):Prop where
 safe:d.Safe
 synced:∀x∈d.ids,(d.node x).safe=(d.node x).data.length
 bound:∀x∈d.ids,(d.node x).data.length<=1048576
 room:d.room=1099511627776
 len:d.now.length<=400
 names:∀p∈d.now,p.1.length<=1000000
 man:LV dr d
def rr(c:Dr)(w:aB)(e:Ending)(w':aB):Prop:=
 ∃a F d,e=.returned (l9 a)/\o7 w' F a d/\Zu c d/\Ext w w'/\∀b,F b->w.heap.size<=b
theorem c0D(v:aX)(d:Dr)(w:aB)(h:GI w v d)(hs:d.Small)(hL:Laid w):
 Calls prog 13 #[v,.int .i64 1099511627776] w (rr d w):=by
 obtain⟨v0,v1,v3,rfl,h0,h1,h3⟩:=h;obtain⟨a0,c0,rfl,hl0,hm0⟩:=h0.form;obtain⟨a1,c1,rfl,hl1,hm1⟩:=h1.form;obtain⟨a3,c3,rfl,hl3,hm3,-⟩:=h3.open;obtain⟨w0,hw0⟩:∃w0,w.alloc (.cells #[.slice a0 d.bY.length c0,.slice a1 d.others.length c1,.int .u64 d.gen,.slice a3 d.spoilt.length c3,.bool d.whole,.bool d.without] 27)=w0:=⟨_,rfl⟩;have hb0:o6 w0 w 27 #[.slice a0 d.bY.length c0,.slice a1 d.others.length c1,.int .u64 d.gen,.slice a3 d.spoilt.length c3,.bool d.whole,.bool d.without]:=hw0▸jR _ _ rfl;have ou:Ext w w0:=hw0▸(dh w).new _;have b0:=(hb0.cell 0).trans (show _=some (Value.slice a0 d.bY.length c0) from rfl);have b1:=(hb0.cell 1).trans (show _=some (Value.slice a1 d.others.length c1) from rfl);have b2:=(hb0.cell 2).trans (show _=some (Value.int .u64 d.gen) from rfl);have b3:=(hb0.cell 3).trans (show _=some (Value.slice a3 d.spoilt.length c3) from rfl);have b4:=(hb0.cell 4).trans (show _=some (Value.bool d.whole) from rfl);have b5:=(hb0.cell 5).trans (show _=some (Value.bool d.without) from rfl);have hnew:=b5d 1099511627776 w0 aj;have H0:=ah (h0.ext λ_ _=>qL.ext ou);have H1:=ah (h1.ext λ_ _=>GK.ext ou);have H3:=ah (h3.ext ou);have HS:=ah hs;have QU:=ah (hL.ext ou);have fN:=ah ou;have HW0:=ah hw0;have XV:=ah hnew;have B0:=ah b0;have B1:=ah b1;have B2:=ah b2;have B3:=ah b3;have B4:=ah b4;have B5:=ah b5;clear h0 h1 h3 hs hL ou hw0 hb0 hnew b0 b1 b2 b3 b4 b5;obtain⟨i0,hi,hz0,hz1,hz2⟩:=info_parts Dq;obtain⟨ii,hii,hi0,hi1,hi2⟩:=info_parts WY;obtain⟨n0,hn0⟩:∃n0,w0.heap.size=n0:=⟨_,rfl⟩;go_enter func13,ntmps13
 go_wp2_with fail
 rw[HW0.out];refine XV.out.mono ?_;rintro e w1 ⟨a,F1,rfl,hD1,hE1,hF1⟩;have Uc:Ae n0 F1 (.slice none 0 0) [] w1:=⟨⟨rfl,.inl ⟨rfl,rfl⟩⟩,λb hb=>by cases hb⟩;have HD1:=ah hD1;have lQ:=ah hE1;have fL:=ah hF1;have HL1:=ah Uc;clear hD1 hE1 hF1 Uc XV;unfold l9;go_wp2;go_loopw [6,7] (λids i wr=>∃(k:Nat)(F:tyP)(D:D)(l:fC),k<=d.bY.length/\i=.int .i64 k/\xk w0 a k F D wr/\l.length<=k/\Ae n0 F ids l wr/\D.file y8=none/\∀x∈l,∃s∈d.bY,x=(IY s.id:Int)) (λ_ i _=>d.bY.length - (intOf i).toNat)
 case atStart=>exact⟨0,F1,_,[],aj,rfl,⟨HD1.out,D.Built.empty,lQ.out,fL.out⟩,aZ,HL1.out,rfl,λ_ h=>by cases h⟩
 case round=>
  obtain⟨k,F,E,l,hk,rfl,hST,hll,hI,hem,hlm⟩:=hrel;have Nn:=ah hem;have QS:=ah hlm;clear hem hlm;have b0:=hST.ext.cell B0.out;have HST:=ah hST;have HI:=ah hI;obtain⟨ia,ic,hiv⟩:=ownsRow_form hI.own;subst hiv;clear hST hI;have hsg:=HS.out.bY;by_cases hlt:k<d.bY.length
  ·obtain⟨s,hs⟩:∃s,d.bY[k]?=some s:=⟨_,au hlt⟩;have hsm:=aH hs;have hst:=HS.out.tail s hsm;have hsr:=HS.out.recs s hsm;obtain⟨b,rfl,u1,u2,s0,s1,s2,s3,s4,hrec,htail⟩:=(H0.out.ext λ_ _=>qL.ext HST.out.ext).at hs;obtain⟨ra,rc,rfl,hrc,TP⟩:=hrec.form;obtain⟨ta,tc,rfl,htc,TB,-⟩:=htail.open;have Np:=ah hrec;have HSR:=ah hsr;have Hz:=ah htail;have DK:=ah hsm;clear hrec htail hs hsm hsr;obtain⟨nb,hnb⟩:∃nb,wr.heap.size=nb:=⟨_,rfl⟩;obtain⟨wA,hwA⟩:∃wA,wr.alloc (.cells #[.int .i64 s.id,.slice ra s.recs.length rc,.slice ta s.tail.length tc,.bool s.listed,.bool s.gone] 94)=wA:=⟨_,rfl⟩;have uX:o6 wA nb 94 #[.int .i64 s.id,.slice ra s.recs.length rc,.slice ta s.tail.length tc,.bool s.listed,.bool s.gone]:=hwA▸jR _ _ hnb;have hEA:Ext wr wA:=hwA▸(dh wr).new _;have q1:=(uX.cell 1).trans (show _=some (Value.slice ra s.recs.length rc) from rfl);have q2:=(uX.cell 2).trans (show _=some (Value.slice ta s.tail.length tc) from rfl);have q3:=(uX.cell 3).trans (show _=some (Value.bool s.listed) from rfl);have q4:=(uX.cell 4).trans (show _=some (Value.bool s.gone) from rfl);have hid:=jn s.id wA;have IJ:Held wA F (λW=>o6 W nb 94 #[.int .i64 s.id,.slice ra s.recs.length rc,.slice ta s.tail.length tc,.bool s.listed,.bool s.gone]):=Held.box uX λhF=>by have:=HST.out.disk.low nb hF;omega
   have fY:=ah IJ;clear IJ;have M4:=ah hid;have J1:=ah hwA;have uh:=ah hEA;have LI:=ah hnb;have Q1:=ah q1;have Q2:=ah q2;have Q3:=ah q3;have Q4:=ah q4;clear hid hwA hEA uX q2 q3 q4 hnb;obtain⟨nA,hnA⟩:∃nA,wA.heap.size=nA:=⟨_,rfl⟩;go_wp2_with fail
   rw[J1.out,LI.out];refine M4.out.mono ?_;rintro e w2 ⟨y,rfl,hy1,hy2,hw2,hyi⟩;have HYI:=ah hyi;rw[hw2];clear hw2 hyi;go_wp2;go_loopw [10,11] (λbs i wq=>∃(j:Nat)(m:dV),j<=s.recs.length/\i=.int .i64 j/\OwnB wq nA bs m/\m.length<=200*j/\Ext wA wq) (λ_ i _=>s.recs.length - (intOf i).toNat)
   case atStart=>exact⟨0,[],aj,rfl,Jp _ _,aZ,dh _⟩
   case round=>
    obtain⟨j,m,hj,rfl,hown,hml,hEq⟩:=hrel;obtain⟨ma,mc,rfl⟩:=ownsRow_form hown;have q1:=hEq.cell Q1.out;have HOWN:=ah hown;have rC:=ah hEq;clear hown hEq;have hrl:=HSR.out.1;by_cases hjl:j<s.recs.length
    ·obtain⟨r,hr⟩:∃r,s.recs[j]?=some r:=⟨_,au hjl⟩;obtain⟨bb,rfl,r0,r1,r2,r3⟩:=(Np.out.ext λ_ _=>Ef.ext (uh.out.trans rC.out)).at hr;have hrec:=b7h r.seq r.key r.val r.del wr;have K9:=ah hrec;clear hrec hr;unfold PI z_ at K9;go_wp2_with fail
     refine K9.out.mono ?_;rintro e w3 ⟨rfl,jM⟩;have henc:=b8c r.seq r.key r.val r.del 0 (w3.alloc (.cells #[.int .u64 r.seq,.string r.key,.string r.val,.bool r.del,.int .i64 0] 116));have NH:=ah henc;have qO:=ah jM;clear henc jM;unfold z_ at NH;go_wp2_with fail
     refine NH.out.mono ?_;rintro e w4 ⟨x,n,m2,rfl,lH,hO4,hl4⟩;have wu:Ext wr w4:=(qO.out.new _).trans lH;by_cases hn:n=0
     ·subst hn;have JZ:nA<=w4.heap.size:=by have:=rC.out.size;have:=wu.size;omega
      obtain⟨xa,xc,rfl⟩:=ownsRow_form hO4;have hO:=ownsRow_below HOWN.out wu;have hB4:=hO4.bytes;have HO:=ah hO;have HB4:=ah hB4;have rZ:=ah (rC.out.trans wu);clear hO hB4 wu lH hO4 HOWN NH K9;go_wp2_with (at_builtin;go_must (refine A8 rfl _ _ 25 rfl nA 5 i0 (.int .u8 0) 1 1 underlying25 hi hz0 hz1 hz2 rfl aj (.slice ma m.length mc) m.length (m.map eG) rfl HO.out (.slice xa m2.length xc) m2.length (m2.map eG) rfl HB4.out aZ (Dv m2) lJ aj JZ ?_);intro b5 c5 w5 hown5 kD vZ;clear vZ)
      have xM:OwnB w5 nA (.slice b5 (m.length+m2.length) c5) (m++m2):=by unfold OwnB;rw[aY,aC];exact hown5
      have kE:Ext wA w5:=Below.grown rZ.out kD aj (λr hr=>by have:=(HO.out.lt r hr);omega);have JF:=ah xM;have rM:=ah kE;clear xM kE hown5 kD;go_roundw
      case rel=>exact⟨j+1,m++m2,aj,iE,JF.out,by rw[aC];omega,rM.out⟩
      case measure=>simp[intOf];omega
     ·have hnn:(n==0)=false:=bG.2 hn;have Vb:=rC.out.trans wu;have hO:=ownsRow_below HOWN.out wu;have HO:=ah hO;have rZ:=ah Vb;clear hO Vb wu lH hO4 hn HOWN;go_wp2;go_roundw
      case rel=>exact⟨j+1,m,aj,iE,HO.out,aj,rZ.out⟩
      case measure=>simp[intOf];omega
    ·obtain rfl:j=s.recs.length:=aj
     have q2:=rC.out.cell Q2.out;have q4:=rC.out.cell Q4.out;have htb:=Hz.out.ext (uh.out.trans rC.out);have hsz5:nA<=wr.heap.size:=by have:=rC.out.size;omega
     have K3:=ah htb;clear htb;have lE:=rC.out.size;go_wp2_with (at_builtin;go_must (refine A8 rfl _ _ 25 rfl nA 5 i0 (.int .u8 0) 1 1 underlying25 hi hz0 hz1 hz2 rfl aj (.slice ma m.length mc) m.length (m.map eG) rfl HOWN.out (.slice ta s.tail.length tc) s.tail.length (s.tail.map eG) rfl K3.out aZ (Dv _) lJ aj hsz5 ?_);intro b5 c5 w5 hown5 kD vZ;clear vZ;have kE:=Below.grown rC.out kD lE (λr hr=>by have:=(HOWN.out.lt r hr);omega);have q5:=Ext.cell kE Q4.out;have rM:=ah kE;clear kE)
     have hnm:=Qy D6 y w5 IQ hy2;have nR:=ah hnm;clear hnm;have xM:OwnB w5 nA (.slice b5 (m.length+s.tail.length) c5) (m++s.tail):=by unfold OwnB;rw[aY,aC];exact hown5
     have JF:=ah xM;clear xM hown5 kD q5 q4 q2 q1 s0 s3 s4;unfold bJ D6 at nR;go_wp2_with fail
     refine nR.out.mono ?_;rintro e w6 ⟨rfl,mY⟩;have oh:xk w0 a k F E w6:=HST.out.to ((uh.out.trans rM.out).trans mY);have UZ:∀b,F b->b<nA:=λb hb=>by have:=HST.out.disk.low b hb;have:=uh.out.size;omega
     have yN:OwnB w6 nA (.slice b5 (m.length+s.tail.length) c5) (m++s.tail):=ownsRow_below JF.out mY;have hby:Held w6 F (λW=>Bytes W (.slice b5 (m.length+s.tail.length) c5) (m++s.tail)):=(Held.ownB yN λb hb hF=>by have:=(yN.lt b hb).1;have:=UZ b hF;omega).mono λW hW=>OwnB.bytes hW;have kQ:=ZY F a E k (y7 D6 y) _ (m++s.tail) w6 oh.disk oh.built aj (by rw[VV];simp[D6]) hby (by rw[aC];omega) (Held.laid QU.out oh.ext oh.low);have ug:=ah kQ;have Nj:=ah oh;have xq:=ah mY;clear kQ oh hby yN UZ mY;unfold l9 bJ at ug;go_wp2_with fail
     refine ug.out.mono ?_;rintro e w7 hfl;obtain rfl:=hfl.1;obtain⟨F7,E7,qI,pL,BO⟩:=Nj.out.file hfl;have BR:E7.file y8=none:=by rw[BO,if_neg λh=>c6B y h.1.symm];exact Nn.out
     have Ih:=ah BR;clear BO BR;have oW:=ah qI;have JJ:=ah ((HI.out.to ((uh.out.trans rM.out).trans xq.out)).step pL);have ga:=ah ((fY.out.ext (lI rM.out xq.out)).step pL);clear qI pL hfl;go_wp2_with fail
     rotate_left
     have hx:∃F7 E7,E7.file y8=none/\xk w0 a (k+1) F7 E7 w5/\Ae n0 F7 (.slice ia l.length ic) l w5/\Held w5 F7 (λW=>o6 W nb 94 #[.int .i64 s.id,.slice ra s.recs.length rc,.slice ta s.tail.length tc,.bool s.listed,.bool s.gone]):=
      ⟨F,E,Nn.out,⟨HST.out.disk.ext (uh.out.trans rM.out),HST.out.built.more aj,HST.out.ext.trans (uh.out.trans rM.out),HST.out.low⟩,HI.out.to (uh.out.trans rM.out),fY.out.ext rM.out⟩
     obtain⟨F7,E7,BR,qI,W7,hb7⟩:=hx;have Ih:=ah BR;clear BR;have oW:=ah qI;have JJ:=ah W7;have ga:=ah hb7;clear qI W7 hb7 hown5 kD q5 q4 q2 q1 s0 s3 s4;all_goals
      rename World=>wz
      have hin:=sL (.slice ia l.length ic) l (y:Int) wz JJ.out.own.ints;have q3:=(ga.out.get.cell 3).trans (show _=some (Value.bool s.listed) from rfl);have DL:=ah hin;clear hin;refine DL.out.mono ?_;rintro e w8 ⟨rfl,hw8⟩;rw[hw8];clear hw8 w8 DL
      cases hsl:s.listed with
      | false=>
       rw[hsl] at q3;go_wp2;go_roundw
       case rel=>exact⟨k+1,F7,E7,l,aj,iE,oW.out,aj,JJ.out,Ih.out,QS.out⟩
       case measure=>simp[intOf];omega
      | true=>
       rw[hsl] at q3
       cases hyl:decide ((y:Int)∈l) with
       | true=>
        go_wp2;go_roundw
        case rel=>exact⟨k+1,F7,E7,l,aj,iE,oW.out,aj,JJ.out,Ih.out,QS.out⟩
        case measure=>simp[intOf];omega
       | false=>
        have hszz:n0<=wz.heap.size:=by have:=oW.out.ext.size;omega
        have hsz0:wz.heap.size<=(wz.alloc (.cells #[.int .i64 y] 3)).heap.size:=aZ
        go_wp2_with (at_builtin;go_must (refine A8 rfl _ _ 69 rfl n0 3 ii (.int .i64 0) 1 8 underlying69 hii hi0 hi1 hi2 rfl aj (.slice ia l.length ic) l.length _ rfl (World.ownsRow.alloc JJ.out.own (.cells #[.int .i64 y] 3)) (.slice (some ⟨wz,0,none⟩) 1 1) 1 [.int .i64 y] rfl (Qo wz _ _) rfl qV lJ aj aj ?_);intro b9 c9 w9 jX jL uG)
        have OW:jd w9 n0 (.slice b9 (l.length+1) c9) (l++[(y:Int)]):=by unfold jd;rw[aY,aC];exact jX
        have KY:Ext w0 (wz.alloc (.cells #[.int .i64 y] 3)):=oW.out.ext.new _;have qh:Ext w0 w9:=Below.grown KY jL (by have:=KY.size;omega) (λr hr=>by have:=(World.ownsRow.lt JJ.out.own r hr).1;omega);have Ve:o7 w9 F7 a E7:=oW.out.disk.frame (λb hb=>by have hlt:=oW.out.disk.low b hb;refine(jL.block b iw (λe=>JJ.out.off b e.symm hb)).trans ?_;exact heap_alloc_old _ _ hlt) (by have:=jL.size;omega)
        have YM:Ae n0 F7 (.slice b9 (l.length+1) c9) (l++[(y:Int)]) w9:=⟨OW,λb hb hF=>by
         rcases uG with h|h
         ·exact JJ.out.off b (h.symm.trans hb) hF
         ·have:=oW.out.disk.low b hF;rw[h] at hb;injection hb with hb;simp at hb;omega⟩
        have K4:=ah (⟨Ve,oW.out.built,qh,oW.out.low⟩:xk w0 a (k+1) F7 E7 w9);have HI9:=ah YM;clear OW KY qh Ve YM jX jL uG;go_roundw
        case rel=>exact⟨k+1,F7,E7,l++[(y:Int)],aj,iE,K4.out,iw,HI9.out,Ih.out,λx hx=>(aP.1 hx).elim (QS.out x) λh=>⟨s,DK.out,by rw[dB.1 h,HYI.out]⟩⟩
        case measure=>simp[intOf];omega
  ·obtain rfl:k=d.bY.length:=aj
   have b2:=HST.out.ext.cell B2.out;have hwm:=a9B d.gen (.slice ia l.length ic) l wr HI.out.own.ints;have eN:=ah hwm;clear hwm;obtain⟨nB,hnB⟩:∃nB,wr.heap.size=nB:=⟨_,rfl⟩;go_wp2_with fail
   refine eN.out.mono ?_;rintro e w2 ⟨x,rfl,hE2,hcase⟩;obtain⟨ml,hml,TY,hox⟩:∃ml:dV,ml.length<=300/\rB d ml/\OwnB w2 nB x ml:=by
    rcases hcase with⟨hok,hO⟩|⟨-,rfl⟩
    ·have h60:l.length<=60:=by unfold Q7 at hok;simp only[aI,bZ] at hok;exact hok.1
     exact⟨_,by unfold summed U8;simp[H7,U6];omega,λg ids e=>by rw[U' hok] at e;injection e with e;injection e with _ e;exact e▸QS.out,hnB▸hO⟩
    ·exact⟨[],aZ,λg ids e=>(by rw[X8 (Xv (.inl aZ))] at e;cases e),Jp _ _⟩
   have LS:=ah TY;clear TY;obtain⟨xa,xc,rfl⟩:=ownsRow_form hox;have hst2:=HST.out.to hE2;have b3:=hst2.ext.cell B3.out;have b4:=hst2.ext.cell B4.out;have hsz2:nB<=w2.heap.size:=by have:=hE2.size;omega
   have hsp:=HS.out.spoilt;have HOX:=ah hox;have qd3:=ah hst2;have Nk:=ah (H3.out.ext hst2.ext);have HE2:=ah hE2;obtain⟨z,hz⟩:∃z,(if Q7 l=true then(0:Int) else 4)=z:=⟨_,rfl⟩;rw[hz];clear hox hst2 hcase hE2 hz b0 b2;go_upto_region 24 with fail
   go_cut [103] (λc wx=>wx=w2/\c=.bool (decide (0<d.spoilt.length)&&!d.whole))
   case first=>
    by_cases hs0:0<d.spoilt.length
    ·have he:(decide (0<d.spoilt.length)&&!d.whole) = !d.whole:=by rw[aN hs0];rfl
     go_wp2_with fail
     go_meet
     exact⟨rfl,by rw[he]⟩
    ·have he:(decide (0<d.spoilt.length)&&!d.whole)=false:=by rw[aK hs0];rfl
     go_wp2_with fail
     go_meet
     exact⟨rfl,by rw[he]⟩
   case rest=>
    obtain⟨hwc,rfl⟩:=hcut;subst hwc;obtain⟨cc,hcc,hcs⟩:∃cc,(decide (0<d.spoilt.length)&&!d.whole)=cc/\(d.spoilt=[]->cc=false):=⟨_,rfl,λh=>by rw[h];rfl⟩;rw[hcc];have HCS:=ah hcs;clear hcc hcs;go_upto_if 103 with fail
    go_cut [17] (λv wx=>wx=wc/\∃l':dV,l'.length<=300/\(d.spoilt=[]->l'=ml)/\OwnB wx nB v l')
    case first=>
     cases cc
     ·go_wp2_with fail
      go_meet
      exact⟨rfl,ml,hml,λ_=>rfl,HOX.out⟩
     ·go_wp2_with fail
      go_meet
      exact⟨rfl,[],aZ,λh=>(by cases HCS.out h),Jp _ _⟩
    case rest=>
     obtain⟨hwc,RN,Ku,hm2,Ko⟩:=hcut;have JH:=ah hm2;clear hm2;obtain⟨xa2,o_,rfl⟩:=ownsRow_form Ko;subst hwc;have Nq:=ah Ko;clear Ko HOX;go_upto_if 110 with(at_builtin;go_must (refine A8 rfl _ _ 25 rfl nB 5 i0 (.int .u8 0) 1 1 underlying25 hi hz0 hz1 hz2 rfl aj (.slice xa2 RN.length o_) RN.length (RN.map eG) rfl Nq.out (.slice a3 d.spoilt.length c3) d.spoilt.length (d.spoilt.map eG) rfl Nk.out aZ (Dv _) lJ aj hsz2 ?_);intro b10 c10 w10 mJ lG qJ;clear qJ;obtain⟨u10,Tt⟩:∃u,Value.slice b10 (RN.length+d.spoilt.length) c10=u:=⟨_,rfl⟩;rw[Tt] at mJ⊢;obtain⟨lst,Kw,UL⟩:∃lst:dV,(lst.length<=41000/\(d.spoilt=[]->rB d lst))/\OwnB w10 nB u10 lst:=⟨RN++d.spoilt,⟨by rw[aC];omega,λh=>by rw[JH.out h,h,dX];exact LS.out⟩,by unfold OwnB;rw[aY,aC];exact mJ⟩;have Yb:=ah Kw.2;replace Kw:=Kw.1;have BG:=HST.out.to (Below.grown HE2.out lG HE2.out.size (λr hr=>by have:=(Nq.out.lt r hr);omega));have b5:=BG.ext.cell B5.out;have Ns:=ah UL;have qM:=ah BG;clear UL BG mJ lG Tt)
     go_cut [5] (λv wx=>v=.pointer (some a)/\∃F7 E7,xk w0 a 61 F7 E7 wx/\LV d E7)
     case first=>
      have hby:Held w10 F (λW=>Bytes W u10 lst):=(Held.ownB Ns.out λb hb hF=>by have:=(Ns.out.lt b hb).1;have:=HST.out.disk.low b hF;omega).mono λW hW=>OwnB.bytes hW;have kQ:=ZY F a E d.bY.length y8 u10 lst w10 qM.out.disk qM.out.built aj (by simp[y8]) hby aj (Held.laid QU.out qM.out.ext qM.out.low);unfold l9 bJ y8 at kQ;have Yj:=ah kQ;clear kQ hby;go_wp2_with fail
      all_goals
       first
       | (refine Yj.out.mono ?_
          rintro e wz hfl;obtain rfl:=hfl.1;obtain⟨F7,E7,qI,-,BO⟩:=qM.out.file hfl;have T_:LV d E7:=λ_ h=>⟨lst,by rw[BO,if_pos ⟨rfl,Nn.out⟩],Yb.out h⟩;have L1:=ah T_;clear T_ BO;have oW:=ah (qI.more (m:=61) aj);clear qI hfl;go_wp2_with fail
          go_meet
          exact⟨rfl,F7,E7,oW.out,L1.out⟩)
       | (go_meet
          exact⟨rfl,F,E,qM.out.more aj,λh=>iL⟩)
     case rest=>
      obtain⟨rfl,F7,E7,qI,T_⟩:=hcut;have oW:=ah qI;have L1:=ah T_;clear b5 b4 b3 qI T_ Ns qM Nk Nq HI HST HE2 eN;go_wp2_with fail
      go_loopw [19] (λi wq=>∃(k2:Nat)(F:tyP)(E:D),k2<=d.others.length/\i=.int .i64 k2/\xk w0 a (61+k2) F E wq/\LV d E) (λi _=>d.others.length - (intOf i).toNat)
      case atStart=>exact⟨0,F7,E7,aj,rfl,oW.out,L1.out⟩
      case round=>
       obtain⟨k2,F,E,hk2,rfl,hST,ae⟩:=hrel;have LO:=ah ae;clear ae;have b1:=hST.ext.cell B1.out;have HST:=ah hST;clear hST;have hot:=HS.out.others;by_cases hlt2:k2<d.others.length
       ·obtain⟨s,hs⟩:∃s,d.others[k2]?=some s:=⟨_,au hlt2⟩;obtain⟨hn1,hn2⟩:=HS.out.other s (aH hs);obtain⟨b,rfl,u2,s0,s1,s2,hby⟩:=H1.out.at hs;replace s0:=HST.out.ext.cell s0;replace s1:=HST.out.ext.cell s1;replace s2:=HST.out.ext.cell s2;obtain⟨ba,bc,rfl,hbc,hbc',-⟩:=hby.open;have Ys:Held w0 (λ_=>False) (λW=>Bytes W (.slice ba s.bytes.length bc) s.bytes):=Held.bytes hby (λ_ _ _ _ h=>h);have HBH:=ah Ys;clear Ys hby hs;by_cases hh:0<s.hint
        ·have hid:=jn s.hint wr;have M4:=ah hid;clear hid;go_wp2_with fail
         refine M4.out.mono ?_;rintro e w2 ⟨y,rfl,hy1,hy2,hw2,-⟩;rw[hw2];clear hw2 w2;have hnm:=Qy qx y wr (by simp[qx]) hy2;have nR:=ah hnm;clear hnm;unfold bJ qx at nR;go_wp2_with fail
         refine nR.out.mono ?_;rintro e w6 ⟨rfl,mY⟩;have oh:=HST.out.to mY;have d1:=mY.cell b1;have t2:=mY.cell s2;have kQ:=ZY F a E (61+k2) (y7 qx y) _ s.bytes w6 oh.disk oh.built aj (by rw[VV];simp[qx]) (HBH.out.lift oh.ext oh.low) aj (Held.laid QU.out oh.ext oh.low);have ug:=ah kQ;have Nj:=ah oh;clear kQ oh mY b1 s0 s1 s2;unfold l9 bJ qx at ug;go_wp2_with fail
         refine ug.out.mono ?_;rintro e w7 hfl;obtain rfl:=hfl.1;obtain⟨F8,E8,BF,-,BN⟩:=Nj.out.file hfl;have Ya:=ah (LO.out.file BN);clear BN;have Nh:=ah BF;clear BF hfl;go_wp2_with fail
         go_roundw
         case rel=>exact⟨k2+1,F8,E8,aj,iE,Nh.out,Ya.out⟩
         case measure=>simp[intOf];omega
        ·have kQ:=ZY F a E (61+k2) s.name.data.toList _ s.bytes wr HST.out.disk HST.out.built aj (by have:=P8 s.name;omega) (HBH.out.lift HST.out.ext HST.out.low) aj (Held.laid QU.out HST.out.ext HST.out.low);rw[c0C] at kQ;have ug:=ah kQ;clear kQ;unfold l9 at ug;go_wp2_with fail
         refine ug.out.mono ?_;rintro e w7 hfl;obtain rfl:=hfl.1;obtain⟨F8,E8,BF,-,BN⟩:=HST.out.file hfl;have Ya:=ah (LO.out.file BN);clear BN;have Nh:=ah BF;clear BF hfl;go_wp2_with fail
         go_roundw
         case rel=>exact⟨k2+1,F8,E8,aj,iE,Nh.out,Ya.out⟩
         case measure=>simp[intOf];omega
       ·obtain rfl:k2=d.others.length:=aj
        have hsy:=EB F a E wr HST.out.disk (by have:=HST.out.built.Bh;omega) (λl hl=>⟨(HST.out.built.og l hl).1,λm hm=>by have:=(HST.out.built.og l hl).2 m hm;unfold maxLen;omega⟩);obtain⟨E',hE',hsafe,Gh,pR,BJ,hroom⟩:=HST.out.built.xQ;rw[hE'] at hsy;have JC:=ah hsy;clear hsy;unfold l9 at JC;go_wp2_with fail
        refine JC.out.mono ?_;rintro e w7 ⟨F8,v8,rfl,-,ax,pH,-⟩;have hfin:rr d w (.returned (l9 a)) w7:=by
         refine⟨a,F8,E',rfl,ax,⟨hsafe,λx hx=>?_,λx hx=>?_,hroom.trans HST.out.built.room,?_,λp hp=>?_,λh1 h2=>?_⟩,?_,λb hb=>?_⟩
         ·rw[BJ];rw[pR] at hx;exact HST.out.built.synced x hx
         ·rw[BJ];rw[pR] at hx;exact HST.out.built.bound x hx
         ·rw[Gh];have:=HST.out.built.len;omega
         ·rw[Gh] at hp;exact HST.out.built.names p hp
         ·obtain⟨ml,e,hm⟩:=LO.out h1 h2;exact⟨ml,by unfold D.file at e⊢;rw[Gh,BJ];exact e,hm⟩
         ·exact fN.out.trans (HST.out.ext.trans' (pH.below HST.out.low HST.out.ext.size))
         ·have h1:=fN.out.size;have h2:=HST.out.ext.size;rcases pH.grow b hb with h|h
          ·have:=HST.out.low b h;omega
          ·omega
        have qo:=ah hfin;clear hfin ax pH;unfold l9 at qo;go_wp2;go_ret;exact qo.out
end Go.Proofs.YtgpbhjjajpbeeaaGreatDoor
