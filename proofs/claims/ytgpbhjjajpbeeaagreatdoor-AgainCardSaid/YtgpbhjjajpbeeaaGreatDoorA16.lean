/- A part of what the last file proves. -/
import Derived.Test.YtgpbhjjajpbeeaaGreatDoorA15
import Derived.Lib.SliceRun
set_option linter.all false
set_option maxRecDepth 100000
set_option maxHeartbeats 1600000
open Go.Proofs.Tryz
namespace Go.Proofs.YtgpbhjjajpbeeaaGreatDoor
open Go.RowKit Go.Lib Go.Maps Dk Pl
variable{B b i k n x:Nat}{l:dV}
section
variable{w w':World}{F:Nat->Prop}{a m1 m2:Nat}{mv:Value}{gs:List Nat}{dv:Nat->Value}{d:D}
theorem dM.node'(h:dM w F a m1 m2 mv gs dv d)(H:x∈d.ids)(O:∀b,b<w.heap.size->b≠x->(dv x).ownBlock≠some b->w'.heap[b]?=w.heap[b]?)(P:w.heap.size<=w')
 {v:aX}(B:o6 w' x 176 #[v,.int .i64 n])(s:OwnB w' 0 v l)(t:∀b,v.ownBlock=some b->(dv x).ownBlock=some b\/w.heap.size<=b)(K:n<=l.length)(L:wS w' v)
 {G:tyP}(p:∀b,G b<->F b\/(w.heap.size<=b/\b<w'.heap.size)):
 dM w' G a m1 m2 mv gs (λi=>if i=x then v else dv i) (d.setNode x ⟨l,n⟩):=by
 have m:=h.low;have j:=(h.file x H).1;have k:=(h.file x H).2;have r:=λb c=>O b<|m b c;have A:=λy f I b c=>r b ((h.fx y f).2 b c) (λe=>I4 (h.file y f).2 j dA<|e▸c) (h.apart y f x H I b c)
 exact{
  box:=(r a h.fa (LY h.box j<|dA) (I4 k h.box<|dA)).trans h.box
  now:=h.now.block (r _ h.fm.1 (h.jK j).1<|U2 k h.now)
  safe:=h.safe.block (r _ h.fm.2 (h.jK j).2<|U2 k h.safe)
  ne:=h.ne
  rows:=⟨h.rows.1,λi g l u J=>(r g (h.fg g<|aH u) (LY (h.rows.2 i g l u J) j<|dA) (I4 k (h.rows.2 i g l u J)<|dA)).trans<|h.rows.2 i g l u J⟩
  outer:=jH.row h.outer w' λb c=>r b (h.fo b c) (λe=>I4 h.outer j dA<|e▸c)<|Di h.outer k dA c
  nC:=h.nC.keep λb c=>r b (h.fo b c) (λe=>I4 h.outer j dA<|e▸c)<|Di h.outer k dA c
  flat:=by
   intro y f;by_cases e:y=x
   subst e;simp[if_true];exact L
   simp[if_neg e];exact(h.flat y f).keep λb c=>A y f e b c
  file:=by
   intro y f;by_cases e:y=x
   subst e;simp[D.setNode,upd];exact⟨B,s⟩
   simp[D.setNode,upd,if_neg e];exact⟨(r y (h.fx y f).1 e (I4 k (h.file y f).1<|dA)).trans (h.file y f).1,jH.row (h.file y f).2 w' λb c=>A y f e b c⟩
  apart:=by
   intro y f z E q b c;by_cases N:y=x
   subst N;have C:z≠y:=λe=>q e.symm;simp at c;simp[if_neg C];obtain o|o:=t b c
   exact h.apart y f z E q b o
   intro M;have:=m b<|(h.fx z E).2 b M;omega
   simp[if_neg N] at c;by_cases C:z=x
   subst C;simp;intro M;obtain o|o:=t b M
   exact h.apart y f z E q b c o
   have:=m b<|(h.fx y f).2 b c;omega
   simp[if_neg C];exact h.apart y f z E q b c
  fa:=(p a).2<|.inl h.fa
  fm:=⟨(p _).2<|.inl h.fm.1,(p _).2<|.inl h.fm.2⟩
  fg:=λg u=>(p g).2 (.inl<|h.fg g u)
  fo:=λb c=>(p b).2 (.inl<|h.fo b c)
  fx:=by
   intro y f;refine⟨(p y).2<|.inl (h.fx y f).1,λb c=>?_⟩;by_cases e:y=x
   subst e;simp at c;obtain o|o:=t b c
   exact(p b).2 (.inl<|(h.fx y f).2 b o)
   exact(p b).2 (.inr ⟨o,PZ s c⟩)
   simp[if_neg e] at c;exact(p b).2 (.inl<|(h.fx y f).2 b c)
  low:=λb c=>by
   obtain o|o:=(p b).1 c
   have:=m b o;omega
   omega
  wf:=D.vO h.wf K
  num:=h.num}
end
def c9x(F:tyP)(a:Nat)(r:Int×Er×D)(w:aB)(e:Ending)(w':aB):Prop:=
 ∃v,e=.returned (.tuple #[.int .i64 r.1,v])/\Held w' F (λW=>ErrAt W v r.2.1)/\o7 w' F a r.2.2/\iq F F w w'
theorem size_any(F:tyP)(a:Nat)(d:D)(name:Nm)(w:aB)(h:o7 w F a d)(z:name.length<=maxLen):
 Calls prog 67 #[l9 a,bJ name] w (c9x F a (d.size name) w):=by
 have B:=ah (Qj F a d name w h z);clear h;unfold l9 bJ at *;go_enter func67,ntmps67
 go_wp2_with fail
 refine B.out.mono ?_;intro e J i;obtain⟨m,n,A⟩:=i.cases;have j:=λx g=>D.lV d name x g m.wf;rcases A with⟨b,k,rfl,g,I,s⟩|⟨x,rfl,g⟩
 ·have q:=ah m;have r:=ah n;clear m n i;go_wp2;go_ret2
  refine⟨.iface 132 (.pointer (some b)),?_,?_,?_,r.out⟩
  rw[Z_ g];rfl
  rw[Z_ g];exact s
  rw[Z_ g];exact q.out
 have q:=ah m;have r:=ah n;clear n i;obtain⟨E,K,M,C,L,u⟩:=m;obtain⟨o,v⟩:=u.file x (j x g);let⟨G,N,l⟩:=ownsRow_form v;rw[l] at o;have H:=o.cell 0;clear u v o l j;go_wp2;go_ret2
 refine⟨.nilIface,?_,?_,?_,r.out⟩
 rw[ZL g];rfl
 rw[ZL g];apply Es
 rw[ZL g];exact q.out
theorem sn(F:tyP)(a:Nat)(d:D)(name:Nm)(w:aB)(h:o7 w F a d)(K:name.length<=maxLen):
 Calls prog 92 #[l9 a,bJ name] w λe w'=>PK F a (d.sync name) w e w':=by
 have O:=ah (Qj F a d name w h K);clear h;unfold l9 bJ at *;go_enter func92,ntmps92
 go_wp2_with fail
 refine O.out.mono ?_;intro e E l;obtain⟨s,t,J⟩:=l.cases;rcases J with⟨b,k,rfl,j,S,C⟩|⟨x,rfl,j⟩
 ·have y:=ah t;clear t l;go_wp2;go_ret;refine⟨F,.iface 132 _,rfl,?_,?_,y.out,λb f=>f⟩
  rw[so j];exact C
  rw[so j];exact s
 ·have i:=(λx j=>D.lV d name x j s.wf) x j;have y:=ah t;clear t l;obtain⟨Q,M,P,H,R,v⟩:=s;obtain⟨f,r⟩:=v.file x i;obtain⟨V,W,m⟩:=ownsRow_form r;rw[m] at f;have X:=f.cell 0;have U:=f.cell 1;have T:=f.free 1;have G:=ah (I4 r f dA);go_wp2;go_ret;have n:=(Off.refl x E).setCell 1 (.int .i64 ((((d.find name).2.2.node x).data.length:Nat):Int));refine⟨F,.nilIface,rfl,?_,?_,y.out.trans (iq.off n (v.fx x i).1),λb f=>f⟩
  rw[pg j];exact Es _ _
  rw[pg j];exact⟨Q,M,P,H,_,v.node' i (λb _ u _=>n.block b u) (fE n.size.symm) (f.set 1 _)
   (by rw[<-m];exact jH.row r _ λb f=>n.block b (λe=>G.out (e▸f))) (λb f=>.inl (by rw[m];exact f)) (ak _)
   (by rw[<-m];exact(v.flat x i).keep λb f=>n.block b (λe=>G.out (e▸f))) (λb=>⟨.inl,λh=>h.elim id λh=>by have:=n.size;omega⟩)⟩
def tD(l:dV)(w:aB)(e:Ending)(w':aB):Prop:=∃v,e=.returned v/\OwnB w' w v l/\Ext w w'/\wS w' v
theorem clone_any(v:aX)(l:dV)(w:aB)(h:Bytes w v l)(P:l.length<=4611686018427387904)(F:l.length<=140737488355328):
 Calls prog 88 #[v] w (tD l w):=by
 obtain⟨A,G,t,r,p⟩:=info_parts Dq;have q:=h;obtain⟨n,f,rfl,O,z,J⟩:=h
 cases n with
 | none=>
  have u:l=[]:=have:=z.2 rfl;dL<|aj
  subst u;obtain rfl:f=0:=z.2 rfl;clear q;have m:=run_eql_slice_nil w 25 5 none 0 0 0 0 underlying25;go_enter func88,ntmps88
  go_wp2;go_ret
  exact⟨_,rfl,⟨rfl,Or.inl ⟨rfl,rfl⟩⟩,dh w,wS.nil _ _ _⟩
 | some n=>
  clear J;have m:(binOp BinOp.eql 25 (.slice (some n) l.length f)<|.slice none 0 0).run prog w=.ok (.bool false) w:=run_eql_slice_nil w 25 5 (some n) _ _ 0 0 underlying25;go_enter func88,ntmps88
  go_wp2_with (at_builtin;go_must (refine dz rfl _ _ 25 rfl w 5 A (.int .u8 0) 1 1 underlying25 G t r p rfl aj (.slice (some _) 0 0) 0 [] rfl ⟨rfl,Or.inr ⟨w,0,#[],rfl,ak _,heap_alloc_new w _,ak _,qc,rfl,rfl⟩⟩ _ l.length _ rfl (q.ext<|(dh w).new _) aZ (Dv l) lJ aj aZ (λx s=>⟨0,by simpa [Value.cells] using s⟩) (EQ l) (by
   intro g c e N K j x s;obtain rfl:w.heap.size=g:=by simpa [Value.ownBlock] using K
   rw[heap_alloc_new w _] at j;simp_all) ?_);intro Q M I d a L y)
  go_ret;rw[nS] at y;exact⟨_,rfl,by simpa [OwnB] using d,(Below.grown ((dh w).new<|.cells #[] 5) a aZ (λk H=>by simp[Value.ownBlock] at H;omega)),y⟩
def ZC(F:tyP)(a:Nat)(r:List UInt8×Er×D)(w:aB)(e:Ending)(w':aB):Prop:=
 ∃u v,e=.returned (.tuple #[u,v])/\OwnB w' w u r.1/\Held w' F (λW=>ErrAt W v r.2.1)/\o7 w' F a r.2.2/\iq F F w w'/\wS w' u
theorem c6r(l:dV)(a n:Int)(i j:Nat)(e:(i:Int)=min (max a 0) l.length)(f:(j:Int)=i+min (max n 0) (l.length - i)):Dk.part l a n=(l.take j).drop i/\i<=j/\j<=l.length:=by
 have d:min a.toNat l.length=i:=aj
 have h2:min n.toNat (l.length - i)=j - i:=aj
 refine⟨?_,aj,aj⟩;unfold Dk.part;rw[d,h2,fZ]
theorem GE(F:tyP)(a:Nat)(d:D)(name:Nm)(c n:Int)(w:aB)(h:o7 w F a d)(hn:name.length<=maxLen)(hat:-9223372036854775808<=c/\c<=9223372036854775807)(hn2:-9223372036854775808<=n/\n<=9223372036854775807)
 (r:∀x∈d.ids,(d.node x).data.length<=140737488355328):
 Calls prog 68 #[l9 a,bJ name,.int .i64 c,.int .i64 n] w (ZC F a (d.jF name c n) w):=by
 have g:=Qj F a d name w h hn;have HF:=ah g;clear g h;unfold l9 bJ at *;go_enter func68,ntmps68
 go_wp2_with fail
 refine HF.out.mono ?_;intro e H o;obtain⟨s,C,hc⟩:=o.cases;rcases hc with⟨b,k,rfl,j,hk,hv⟩|⟨x,rfl,j⟩
 ·have v:=ah s;have G:=ah C;clear s C o;have HV:=ah hv;clear hv;go_wp2;go_ret2
  refine⟨.slice none 0 0,.iface 132 (.pointer (some b)),rfl,?_,?_,?_,G.out,wS.nil _ _ _⟩
  ·rw[cA j];exact⟨rfl,Or.inl ⟨rfl,rfl⟩⟩
  ·rw[cA j];exact HV.out
  ·rw[cA j];exact v.out
 ·have q:=(λx j=>D.lV d name x j s.wf:∀x,(d.find name).1=some x->x∈(d.find name).2.2.ids) x j;have hdl:((d.find name).2.2.node x).data.length<=140737488355328:=by have e:=QE d name;rw[e.2.2.2.1];exact r x (by rw[<-e.2.2.1];exact q)
  have v:=ah s;have G:=ah C;clear C o;obtain⟨m1,m2,mv,gs,dv,Z⟩:=s;obtain⟨J,E⟩:=Z.file x q;obtain⟨K,p,t⟩:=ownsRow_form E;rw[t] at J E;have l:=OwnB.bytes E;have hdc:((d.find name).2.2.node x).data.length<=p/\p<=9223372036854775807:=by obtain⟨a',c',e,h1,h2,_⟩:=l;injection e with V e2 I;subst I;exact⟨h1,h2.1⟩
  have c0:=J.cell 0;have z:(d.find name).2.2.node x=⟨((d.find name).2.2.node x).data,((d.find name).2.2.node x).safe⟩:=rfl;have W4:((((d.find name).2.2.node x).data.length:Nat):Int)<=140737488355328:=aj
  obtain⟨A,V⟩:∃A:Int,(if c<0 then(0:Int) else c)=A:=⟨_,rfl⟩;have hA:A=max c 0:=by rw[<-V];split<;>omega
  obtain⟨i,Y⟩:∃i:Nat,(i:Int)=min (max c 0) ((((d.find name).2.2.node x).data.length:Nat):Int):=⟨(min (max c 0) ((((d.find name).2.2.node x).data.length:Nat):Int)).toNat,aj⟩;have e2:(if ((((d.find name).2.2.node x).data.length:Nat):Int)<A then((((d.find name).2.2.node x).data.length:Nat):Int) else A)=(i:Int):=by split<;>omega
  obtain⟨B,I⟩:∃B:Int,(if n<0 then(0:Int) else n)=B:=⟨_,rfl⟩;have hB:B=max n 0:=by rw[<-I];split<;>omega
  obtain⟨m,hm⟩:∃m:Nat,(m:Int)=min (max n 0) (((((d.find name).2.2.node x).data.length:Nat):Int) - i):=⟨(min (max n 0) (((((d.find name).2.2.node x).data.length:Nat):Int) - i)).toNat,aj⟩;have e4:(if ((((d.find name).2.2.node x).data.length:Nat):Int) - i<B then((((d.find name).2.2.node x).data.length:Nat):Int) - i else B)=(m:Int):=by split<;>omega
  have X:((i+m:Nat):Int)=i+min (max n 0) (((((d.find name).2.2.node x).data.length:Nat):Int) - i):=aj
  have hil:i<=((d.find name).2.2.node x).data.length:=aj
  obtain⟨hp,y,hjl⟩:=c6r ((d.find name).2.2.node x).data c n i (i+m) Y X;have hA0:0<=A/\A<=9223372036854775807:=aj
  have hB0:0<=B/\B<=9223372036854775807:=aj
  have BU:∀u,u=.slice (if p=i then K else K.map (·.add i)) m (p - i)->Calls prog 88 #[u] H (tD ((((d.find name).2.2.node x).data.take (i+m)).drop i) H):=by rintro _ rfl;have:=(clone_any _ _ H (l.sliced i (i+m) y hjl) YV YV);rwa [show i+m - i=m by omega] at this
  have HP:=ah hp;have N6:=ah BU;clear BU;clear Z E J t l hp z Y X hm hA hB y;generalize hL:((d.find name).2.2.node x).data=L at *;go_wp2_with fail
  all_goals
   refine(N6.out _ (by first|(rename_i h;rw[if_pos h,show p - i=0 by omega])|(rename_i h;rw[if_neg h]))).mono ?_;rintro e w2 ⟨u,rfl,hu,W,f⟩;go_wp2;go_ret2
   refine⟨u,.nilIface,rfl,?_,?_,?_,G.out.trans (iV W),f⟩
   ·rw[bO j,hL,HP.out];exact H6 hu G.out.size
   ·rw[bO j];exact Es _ _
   ·rw[bO j];exact v.out.ext W
theorem F_(f:Nat->Nat)(c:Nat):∀l:List (Nm×Nat),(∀p∈l,f p.2<=c)->(l.map λp=>f p.2).sum<=l.length*c:=by
 intro l
 induction l with
 | nil=>simp
 | cons p l a=>intro h;have d:=h p aZ;have e:=a λq b=>h q (by simp[b]);simp[bD,mV,dK,jw];omega
theorem Ext.off{w c w2:aB}(h:Ext w c)(a:Off i c w2)(e:w<=i):Ext w w2:=
 ⟨a.os.trans h.os,a.tape.trans h.tape,a.output.trans h.output,by have:=a.size;have:=h.size;omega,λb d=>(a.block b<|aj).trans<|h.block b d⟩
def o6.grown'{w w':aB}{t:bT}{cs:dU}(h:o6 w n t cs){a:Option Nat}(c:w.grownBy w' a)(b:a≠some n):o6 w' n t cs:=
 (c.block n h.lt (λe=>b e.symm)).trans h
def Iq(d:D)(a:List (Nm×Nat)):Nat:=(a.map λp=>(d.node p.2).data.length).sum
theorem FO(F:tyP)(a:Nat)(d:D)(name:Nm)(u:aX)(l:dV)(w:aB)(h:o7 w F a d)(j:Held w F (λW=>Bytes W u l))(hn:name.length<=maxLen)(hl:l.length<=35184372088832)
 (hds:∀x∈d.ids,(d.node x).data.length<=35184372088832)(hnl:d.now.length<=32768):
 Calls prog 91 #[l9 a,bJ name,u] w λe w'=>PK F a (d.append name l) w e w':=by
 obtain⟨i0,hi,hz0,hz1,hz2⟩:=info_parts Dq;have HF:=ah (Qj F a d name w h hn);clear h;obtain⟨ua,gj,hu⟩:∃a c,u=.slice a l.length c:=by obtain⟨a,c,h,_⟩:=j.get;exact⟨a,c,h⟩
 subst hu;have HBy:=ah j;clear j;unfold l9 bJ at *;go_enter func91,ntmps91
 go_wp2_with fail
 refine HF.out.mono ?_;intro e S N;obtain⟨hD,U,hc⟩:=N.cases;have KH:=HBy.out.step U;have s:=QE d name;have R:∀x∈(d.find name).2.2.ids,((d.find name).2.2.node x).data.length<=35184372088832:=by rw[s.2.2.1,s.2.2.2.1];exact hds
 have Kr:(d.find name).2.2.now.length<=32768:=by rw[s.2.1];exact hnl
 rcases hc with⟨b,k,rfl,z,hk,hv⟩|⟨x,rfl,z⟩
 ·have HD:=ah hD;have HC:=ah U;clear hD U N KH s R Kr;have HV:=ah hv;clear hv;go_wp2;go_ret;refine⟨F,.iface 132 (.pointer (some b)),rfl,?_,?_,HC.out,λb j=>j⟩
  ·rw[GM z];exact HV.out
  ·rw[GM z];exact HD.out
 ·have n:=(λx z=>D.lV d name x z hD.wf:∀x,(d.find name).1=some x->x∈(d.find name).2.2.ids) x z;have hdx:=R x n;have HX:=ah z;have M:=ah (b92 (b:=l) z);have HC:=ah U;have HB1:=ah KH;have DT:=ah R;have HNL:=ah Kr;clear U N KH s R Kr z;generalize hE:(d.find name).2.2=E at *;clear hE;obtain⟨m1,m2,mv,gs,dv,T⟩:=hD;have c0:=T.box.cell 0;have hnum:=T.num;obtain⟨w2,Y,o,Cc,hsz2⟩:=T.now.range underlying171;have Q:=ah T;have JE:=ah o;have HEX:=ah Cc;clear T o Cc;go_wp2;go_loopw [9] (λi wr=>∃m,i=.int .i64 (Iq E m:Nat)/\Y9 prog 9 bJ l9 wr S m1 E.now m/\Ext S wr) (λ_ wr=>E.now.length - Zw wr S)
  case atStart=>exact⟨[],rfl,JE.out,HEX.out⟩
  case round=>
   obtain⟨m,rfl,o,X⟩:=hrel;have hvl:=o.length;have rV:=o.seen;rcases o.next 0 with⟨p,w3,hnx,hpm,KN,P,Z,lB⟩|⟨hnx,r⟩
   ·have V:=Q.out.wf.now p hpm;have KZ:Ext S w3:=X.off P (ak _);obtain⟨j,O⟩:=(Q.out.ext KZ).file p.2 V;obtain⟨da,dc,t⟩:=ownsRow_form O;rw[t] at j;have c1:=j.cell 0;have hdl:=DT.out p.2 V;have J:Iq E (m++[p])=Iq E m+(E.node p.2).data.length:=by simp[Iq]
    have L:∀q∈m,(E.node q.2).data.length<=35184372088832:=λq hq=>DT.out q.2 (Q.out.wf.now q (o.mem q hq));have Kq:=HNL.out;have Gg:Iq E m<=1152921504606846976:=ay (F_ (λx=>(E.node x).data.length) _ m L:Iq E m<=m.length*35184372088832) aj;have HH:=ah KN;have HS:=ah J;have DJ:=ah rV;have XQ:=ah KN.seen;have qO:=ah KZ;have HO3:=ah P;clear O j KN J rV L o P KZ;unfold bJ l9 at hnx Z;go_wp2;go_roundw
    case rel=>refine⟨m++[p],?_,HH.out,qO.out⟩;rw[HS.out];go_num
    case measure=>rw[DJ.out,XQ.out];simp;omega
   ·have Iw:Iq E m=E.used:=by unfold Iq D.used;exact(r.map _).sum_nat
    have Kq:=HNL.out;have hub:E.used<=1152921504606846976:=ay (F_ (λx=>(E.node x).data.length) _ E.now (λq hq=>DT.out q.2 (Q.out.wf.now q hq)):E.used<=E.now.length*35184372088832) aj;have v:=Q.out.ext X;have c3:=v.box.cell 3;obtain⟨j,O⟩:=v.file x n;obtain⟨da,dc,t⟩:=ownsRow_form O;have Um:=v.flat x n;rw[t] at j O Um;have d0:=j.cell 0;have g0:=j.free 0;rw[Iw];have I:=ah v;have Ym:=ah X;have HBX:=ah j;have JG:=ah (I4 O j dA);have Yo:=ah t;have OF:=ah ((HB1.out.ext X));clear v X j o r rV Iw t c0;by_cases y:E.room - (E.used:Int)<(l.length:Int)
    ·go_wp2;go_ret;have lH:Ext S (wr.alloc (.cells #[bJ name,.int .i64 10] 134)):=Ym.out.new _;refine⟨F,.iface 132 (.pointer (some wr)),rfl,?_,?_,HC.out.trans (iV lH),λb j=>j⟩
     ·rw[M.out,if_pos y];exact Jr I.out.low
     ·rw[M.out,if_pos y];exact⟨m1,m2,mv,gs,dv,Q.out.ext lH⟩
    ·go_wp2_with (at_builtin;go_must (refine dz (F:=isByte) rfl _ _ 25 rfl 0 5 i0 (.int .u8 0) 1 1 underlying25 hi hz0 hz1 hz2 rfl aj (.slice da (E.node x).data.length dc) (E.node x).data.length ((E.node x).data.map eG) rfl O (.slice ua l.length gj) l.length (l.map eG) rfl OF.out.get aZ (Dv l) lJ aj aj (λx z=>⟨0,by simpa [Value.cells] using z⟩:∀x∈(Value.int .u8 0).cells,isByte x) (EQ l) Um ?_);intro b6 c6 w6 A g kZ Gl;have f:=HBX.out.grown' g JG.out;have d6:=o6.cell f 0;have g6:=o6.free f 0;have NQ:=ah f;clear f)
     go_ret;have K:((E.node x).data++l).length=(E.node x).data.length+l.length:=aZ
     have Gi:=I4 A NQ.out dA;have hR2:=I.out.node' n
      (λb j hne hno=>(Below.heap_setCell _ _ _ _ hne).trans (g.block b j (λe=>hno (by rw[Yo.out];exact e.symm))))
      (by simpa [World.setCell] using g.size) (NQ.out.set 0 _) (l:=(E.node x).data++l)
      (by unfold OwnB;rw[K,aY];exact ownsRow_setCell_other (a:=x) A Gi _)
      (λb j=>by rw[Yo.out];rcases kZ with h|h<;>rw[h] at j;(exact .inl j);(injection j with j;exact .inr (fE j)))
      (by rw[K];have:=I.out.wf.part x n;omega) (Gl.keep λb j=>Below.heap_setCell _ _ _ _ (λ(e:b=x)=>Gi (e▸j))) (G:=λb=>F b\/wr.heap.size<=b/\b<w6.heap.size) (λb=>IU)
     have lA:=I.out.fx x n;rw[Yo.out] at lA;have hC2:iq F (λb=>F b\/wr.heap.size<=b/\b<w6.heap.size) wr (w6.setCell x (.slice b6 ((E.node x).data.length+l.length) c6)):=
      ⟨g.os,g.tape,g.output,by simpa [World.setCell] using g.size,λb j hF=>(Below.heap_setCell _ _ _ _ (λe=>hF (by rw[show b=x from e];exact lA.1))).trans (g.block b j (λe=>hF (lA.2 b e.symm))),λb j=>j.elim .inl λh=>.inr h.1⟩
     refine⟨_,.nilIface,rfl,?_,?_,HC.out.trans ((iV Ym.out).trans hC2),λb j=>.inl j⟩
     ·rw[M.out,if_neg aj];exact Es _ _
     ·rw[M.out,if_neg aj];exact⟨m1,m2,mv,gs,_,hR2⟩
section
variable{w w':World}{F:Nat->Prop}{a m1 m2:Nat}{mv:Value}{gs:List Nat}{dv:Nat->Value}{d:D}
theorem dM.still(h:dM w F a m1 m2 mv gs dv d):dM (w.setCell ⟨a,2,none⟩ (.slice none 0 0)) F a m1 m2 (.slice none 0 0) [] dv {d with moves:=[]}:=have k:=(Off.refl a w).setCell 2<|.slice none 0 0;have f:=h.box;{
  box:=h.box.set 2 _
  now:=h.now.off k (h.jK f).1
  safe:=h.safe.off k (h.jK f).2
  ne:=h.ne
  rows:=⟨rfl,aZ⟩
  outer:=⟨rfl,Or.inl ⟨rfl,rfl⟩⟩
  nC:=λg c e l h=>by cases h
  flat:=λx j=>(h.flat x j).keep λb i=>k.block b (λe=>I4 (h.file x j).2 f dA<|e▸i)
  file:=λx j=>⟨(k.block x (LY (h.file x j).1 f<|dA)).trans (h.file x j).1,jH.row (h.file x j).2 _ λb i=>k.block b (λe=>I4 (h.file x j).2 f dA<|e▸i)⟩
  apart:=h.apart
  fa:=h.fa
  fm:=h.fm
  fg:=aZ
  fo:=by simp[Value.ownBlock]
  fx:=h.fx
  low:=λb f=>by rw[k.size];exact h.low b f
  wf:=⟨h.wf.now,h.wf.safe,aZ,h.wf.part,h.wf.ids⟩
  num:=h.num}
theorem dM.vS(h:dM w F a m1 m2 mv gs dv d){l:List Mv}(e:d.moves[k]?=some l):∃b c g,mv=.slice (some ⟨b,0,none⟩) d.moves.length c/\w.cell? ⟨b,k,none⟩=some (rU g l)/\sU w g l:=by
 have o:k<d.moves.length:=by grind
 have r:=h.rows.1;obtain⟨_,s⟩|⟨b,f,q,rfl,_,_,_,_,_,_⟩:=h.outer.2
 omega
 refine⟨b,f,gs[k],rfl,?_,h.rows.2 k _ l aZ e⟩;rw[h.outer.cellAt k aj];simp_all
end
theorem a6s{a:List (List Mv)}:∀{m:List (Nm×Nat)}{p:Nm×Nat},p∈a.foldl H8 m->p∈m\/∃l∈a,∃x∈l,x.2=some p.2:=by
 induction a with
 | nil=>grind
 | cons l a c=>
  intro m p h;obtain h|⟨k,b,h⟩:=c h
  obtain h|h:=Xz h
  exact .inl h
  grind
  exact .inr ⟨k,by simp[b],h⟩
theorem EB(F:tyP)(a:Nat)(d:D)(w:aB)(h:o7 w F a d)(n:d.moves.length<=1000000)(z:∀l∈d.moves,l.length<=1000000/\∀m∈l,m.1.length<=maxLen):
 Calls prog 53 #[l9 a] w λe w'=>PK F a d.jc w e w':=by
 have HF:=ah (AI F a d w h);clear h;have r:=d.lW;have K:d.jc=if d.fails.1=true then(.file 9 [],d.fails.2) else(.ok,{d.fails.2 with safe:=d.fails.2.moves.foldl H8 d.fails.2.safe,moves:=[]}):=by unfold D.jc;rw[r.2.1,r.2.2.1]
 rw[<-r.2.2.1] at n z;have HM:=ah z;clear z;have P:=ah K;clear K r;unfold l9;go_enter func53,ntmps53
 go_wp2_with fail
 refine HF.out.mono ?_;rintro e L ⟨rfl,B,hO⟩;have T:∀b,F b->b<L.heap.size:=B.low;have J:F a:=B.fa;have HC:=ah (iq.off (F:=F) hO J);clear hO
 cases hf:d.fails.1 with
 | true=>
  have HD:=ah B;clear B;go_wp2;go_ret;refine⟨F,.iface 132 (.pointer (some L)),rfl,?_,?_,HC.out.trans (iV ((dh L).new _)),λb s=>s⟩
  rw[P.out,if_pos hf];exact Jr (name:=[]) T
  rw[P.out,if_pos hf];exact HD.out.ext ((dh L).new _)
 | false=>
  have XS:¬d.fails.1=true:=by rw[hf];decide
  generalize hE:d.fails.2=E at *;clear hE;obtain⟨m1,S,mv,gs,dv,j⟩:=B;have c1:=j.box.cell 1;have c2:=j.box.cell 2;obtain⟨mva,mvc,rfl⟩:=ownsRow_form j.outer;have HR:=ah j;clear j;go_wp2;go_loopw [15] (λi wr=>∃k:Nat,k<=E.moves.length/\i=.int .i64 k/\dM wr F a m1 S (.slice mva E.moves.length mvc) gs dv {E with safe:=(E.moves.take k).foldl H8 E.safe}/\iq F F L wr) (λi _=>E.moves.length - (intOf i).toNat)
  case atStart=>exact⟨0,dD _,rfl,HR.out,iq.refl _ _⟩
  case round=>
   obtain⟨k,hk,rfl,j,M⟩:=hrel;have d1:=j.box.cell 1;by_cases Q:k<E.moves.length
   ·obtain⟨l,G⟩:∃l,E.moves[k]?=some l:=⟨_,au Q⟩;obtain⟨b,c,g,Z,y,t⟩:=j.vS G;injection Z with Y R V;subst Y;have n:=HM.out l (aH G);have H:E.moves.take (k+1)=E.moves.take k++[l]:=by rw[cO,G];rfl
    have HT:=ah H;have o:=ah j;have A:=ah M;have HS:=ah (set_any S g _ l wr j.safe t n.2 n.1);have QS:=ah (aH G);clear H j M t n G R V;unfold rU at y HS;go_wp2_with fail
    refine HS.out.mono ?_;rintro e w3 ⟨rfl,C,nD⟩;have zJ:=ah C;have v:=ah nD;clear C nD;go_wp2;go_roundw
    case rel=>
     refine⟨k+1,aj,iE,?_,?_⟩
     rw[HT.out,lN];exact (o.out.Rq (λb s X=>v.out.block b s X) v.out.size zJ.out (by
      intro p I;rcases Xz I with I|⟨x,W,e⟩
      ·rcases a6s I with I|⟨q,hq,x,W,e⟩
       exact HR.out.wf.safe p I
       exact HR.out.wf.moves q (List.mem_of_mem_take hq) x W _ e
      exact HR.out.wf.moves l QS.out x W _ e))
     exact A.out.trans ⟨v.out.os,v.out.tape,v.out.output,v.out.size,λb s hF=>v.out.block b s (λe=>hF (e▸o.out.fm.2)),λb s=>.inl s⟩
    case measure=>simp[intOf];omega
   ·obtain rfl:k=E.moves.length:=aj
    rw[bK] at j;have f2:=j.box.free 2;have d2:=j.box.cell 2;have o:=ah j;have A:=ah M;clear j M;go_wp2;go_ret;refine⟨F,.nilIface,rfl,?_,?_,HC.out.trans (A.out.trans (iq.off ((Off.refl a wr).setCell 2 _) J)),λb s=>s⟩
    rw[P.out,if_neg XS];exact Es _ _
    rw[P.out,if_neg XS];exact⟨m1,S,_,_,dv,o.out.still⟩
def D.fail(d:D)(a b:Int):D:={d with wait:=a.toNat,bad:=b.toNat}
def Dk.cut(a:Nat)(n:Nd):Nd:=⟨n.data.take (n.safe+a%(n.data.length - n.safe+1)),n.safe+a%(n.data.length - n.safe+1)⟩
def Dk.D.stepped(d:D)(a:Nat):List (Nm×Nat):=(d.moves.take (a%(d.moves.length+1))).foldl H8 d.safe
theorem OwnB.take{w:aB}{f:Option Addr}{cap:Nat}(h:OwnB w B (.slice f n cap) l)(r:k<=l.length):OwnB w B (.slice f k cap) (l.take k):=by
 unfold OwnB at *;have m:(l.take k).length=k:=iL
 rw[m];let⟨y,s⟩:=h;refine⟨iL,?_⟩;obtain⟨e,v⟩|⟨g,c,d,e,u,t,x,p,o,j⟩:=s
 injection e with b q a;subst b;subst a;have:k=0:=aj
 subst this;exact .inl ⟨rfl,rfl⟩
 injection e with b q a;subst b;subst a;refine .inr ⟨g,cap,d,rfl,u,t,aj,p,o,?_⟩;rw[tq] at j⊢;rw[List.map_take,<-j,kG,jS r]
def qG(x y:Nm):Bool:=decide (x<=y)
def Dk.D.list(d:D):List Nm:=(d.now.map Prod.fst).mergeSort qG
theorem zv(a b c:Nm)(h:qG a b=true)(k:qG b c=true):qG a c=true:=by unfold qG at *;simp at *;exact Std.le_trans h k
theorem zr(a b:Nm):(qG a b||qG b a)=true:=by unfold qG;simp;exact Std.le_total
theorem AH{l k:List Nm}(h:l.Perm k):l.mergeSort qG=k.mergeSort qG:=by
 refine List.Perm.eq_of_pairwise (le:=λa b=>qG a b=true) ?_ (eE zv zr l) (eE zv zr k) ?_
 ·intro a b _ _ h1 h2;unfold qG at h1 h2;simp at h1 h2;exact Std.le_antisymm h1 h2
 ·exact(uM l qG).trans (h.trans (uM k qG).symm)
section
variable{α β:Type}[DecidableEq α]
theorem MO(l:List (α×β))(x y:α):A7 (qK l x) y=if y=x then none else A7 l y:=by
 unfold A7 qK
 induction l with
 | nil=>simp
 | cons p l b=>
  by_cases h:p.1=x
  rw[eM iL,b];split
  rfl
  rw[List.find?_cons_of_neg fU]
  rw[eL fU];by_cases a:p.1=y
  rw[List.find?_cons_of_pos fU,List.find?_cons_of_pos<|fU,if_neg (λe=>h<|a.trans e)]
  grind
theorem Y5(p:α×β)(l:List (α×β))(y:α):A7 (p::l) y=if p.1=y then some p.2 else A7 l y:=by unfold A7;grind
def AK(y:α):A7 ([]:List (α×β)) y=none:=rfl
theorem FG(l k:List (α×β))(y:α):A7 (l++k) y=(A7 l y).or (A7 k y):=by
 induction l with
 | nil=>rfl
 | cons=>rw[List.cons_append,Y5,Y5];grind
theorem G8{l:List (α×β)}{x:α}:A7 l x=none<->x∉l.map (·.1):=by
 induction l with
 | nil=>simp[AK]
 | cons p l a=>
  rw[Y5];split
  rename_i h;simp[h]
  rename_i h;rw[a];simp[dI h]
theorem MN(l:List (α×β))(x:α)(y:β)(z:α):A7 (X4 l x y) z=if z=x then some y else A7 l z:=by
 unfold X4;split
 rename_i f
 induction l with
 | nil=>simp at f
 | cons p l g=>
  rw[bD,Y5,Y5];by_cases c:p.1=x
  rw[if_pos c];by_cases a:z=x
  subst a;simp
  rw[if_neg (λe=>a e.symm),if_neg a,if_neg (λe=>a<|e.symm.trans c)];by_cases b:x∈l.map (·.1)
  rw[g b,if_neg a]
  have:(l.map λp=>if p.1=x then(x,y) else p)=l:=by
   conv=>rhs;rw[<-List.map_id l]
   apply nO;intro q i;have:q.1≠x:=λe=>b<|e▸ig i;simp_all
  rw[this]
  rw[if_neg c];rw[g fU];by_cases a:z=x
  subst a;rw[if_neg c];simp
  simp[a]
 rename_i f;rw[FG,Y5,AK];by_cases a:z=x
 subst a;rw[if_pos rfl,if_pos rfl,G8.2 f];rfl
 rw[if_neg (dI a),if_neg a];simp
def Jl(l k:List (α×β)):Prop:=∀x,A7 l x=A7 k x
theorem Jl.keys{l k:List (α×β)}(h:Jl l k)(b:(l.map (·.1)).Nodup)(d:(k.map (·.1)).Nodup):(l.map (·.1)).Perm (k.map (·.1)):=by
 refine(jf b d).2 λx=>?_;constructor
 intro c;exact bW λd=>G8.1 ((h x).trans<|G8.2 d) c
 intro c;exact bW λb=>G8.1 ((h x).symm.trans<|G8.2 b) c
def FA{l:List (α×β)}(c:(l.map (·.1)).Nodup){p:α×β}(a:p∈l):A7 l p.1=some p.2:=have⟨j,b⟩:=fP.1 a;Dy c b
end
namespace Dk
variable{d:D}
theorem GO{l k:List (Nm×Nat)}(a:List Mv)(h:Jl l k):Jl (H8 l a) (H8 k a):=by
 induction a generalizing l k with
 | nil=>exact h
 | cons m a b=>
  refine b (l:=match m.2 with|none=>qK l m.1|some f=>X4 l m.1 f) (k:=match m.2 with|none=>qK k m.1|some f=>X4 k m.1 f) ?_;intro x
  cases m.2 with
  | none=>show A7 (qK l m.1) x=A7 (qK k m.1) x;rw[MO,MO,h x]
  | some f=>show A7 (X4 l m.1 f) x=A7 (X4 k m.1 f) x;rw[MN,MN,h x]
theorem XF{l:List (Nm×Nat)}(a:List Mv)(h:(l.map (·.1)).Nodup):((H8 l a).map (·.1)).Nodup:=by
 induction a generalizing l with
 | nil=>exact h
 | cons m a b=>
  apply b (l:=match m.2 with|none=>qK l _|some f=>X4 l _ f)
  cases m.2 with
  | none=>apply b7j h
  | some=>apply cw h
theorem a4I{l:List (Nm×Nat)}(a:List (List Mv))(h:(l.map (·.1)).Nodup):((a.foldl H8 l).map (·.1)).Nodup:=by
 induction a generalizing l with
 | nil=>exact h
 | cons m a b=>exact b<|XF m h
def D.file(d:D)(n:Nm):Option (List UInt8):=(A7 d.now n).map λx=>(d.node x).data
abbrev Fl:=List (Nm×List UInt8)
def D.files(d:D):Fl:=d.list.map λn=>(n,(d.file n).getD [])
def zu(d:D)(n:Nm):n∈d.list<->n∈d.now.map (·.1):=List.mem_mergeSort
def BW(h:(d.now.map (·.1)).Nodup):d.list.Nodup:=(uM _ _).nodup_iff.2 h
theorem Gk(d:D):d.files.map (·.1)=d.list:=by unfold D.files;rw[g_];apply List.map_id
theorem Hl(d:D)(n:Nm):A7 d.files n=d.file n:=by
 cases e:d.file n with
 | none=>
  rw[G8,Gk,zu,<-G8];unfold D.file at e
  simp_all
 | some=>
  have c:n∈d.list:=by
   rw[zu];exact bW λh=>by unfold D.file at e;rw[G8.2 h] at e;cases e
  unfold D.files;generalize d.list=l at c
  induction l with
  | nil=>cases c
  | cons m l g=>
   rw[bD,Y5];by_cases h:m=n
   rw[if_pos h,h,e];rfl
   rw[if_neg h];apply g;obtain f|f:=bI.1 c
   exact absurd f.symm h
   exact f
def D.Calm(d:D):Prop:=d.wait=0/\d.bad=0
theorem D.Calm.fails(h:d.Calm):d.fails=(false,d):=by unfold D.fails;rw[if_neg (by have:=h.1;omega),if_neg<|by have:=h.2;omega]
theorem D.Calm.find(h:d.Calm)(n:Nm):d.find n=match A7 d.now n with|none=>(none,.file 11 n,d)|some x=>(some x,.ok,d):=by unfold D.find;rw[h.fails];rfl
theorem D.Calm.size(h:d.Calm)(n:Nm):d.size n=match d.file n with|none=>(0,.file 11 n,d)|some b=>(b.length,.ok,d):=by unfold D.size D.file;rw[h.find];cases A7 d.now n<;>rfl
theorem uC(l:dV):part l 0 l.length=l:=by unfold part;simp
theorem D.Calm.jF(h:d.Calm)(n:Nm)(i k:Int):d.jF n i k=match d.file n with|none=>([],.file 11 n,d)|some b=>(part b i k,.ok,d):=by unfold D.jF D.file;rw[h.find];grind
theorem D.Calm.remove(h:d.Calm){n:Nm}(a:n∈d.now.map (·.1)):d.remove n=(.ok,d.mv [(n,none)]):=by
 unfold D.remove;rw[h.find]
 cases e:A7 _ n with
 | none=>exact absurd a<|G8.1 e
 | some=>rfl
def D.Calm.mv(h:d.Calm)(l:List Mv):(d.mv l).Calm:=h
theorem D.Calm.jc(h:d.Calm):d.jc=(.ok,{d with safe:=d.moves.foldl H8 d.safe,moves:=[]}):=by unfold D.jc;rw[h.fails];rfl
def y8:Nm:=[109,97,110,105,102,101,115,116]
def H5:Nm:=y8++[46,110,101,119]
def D6:Nm:=[100,97,116,97,45]
def qx:Nm:=[104,105,110,116,45]
def digit(k:Nat):UInt8:=UInt8.ofNat (48+k%10)
def y7(a:Nm)(k:Nat):Nm:=a++[digit (k/100000),digit (k/10000),digit (k/1000),digit (k/100),digit (k/10),digit k]
def mO(b:UInt8):Bool:=decide (48<=b.toNat/\b.toNat<=57)
def qW(a n:Nm):Bool:=decide (n.length=a.length+6)&&(decide (n.take a.length=a)&&(n.drop a.length).all mO)
def X6(a:fC)(n:Nm):Bool:=a.any λk=>decide (y7 D6 k.toNat=n)
def Z7(a:fC)(n:Nm):Bool:=decide (n=y8)||(X6 a n||qW qx n)
def D.whole(d:D)(n:Nm):List UInt8×Er×D:=
 match d.size n with
 | (k,.ok,a)=>a.jF n 0 k
 | (_,e,a)=>([],e,a)
def D.bF(d:D):Option (Nat×List Int)×Er×D:=
 match d.whole y8 with
 | (b,.ok,a)=>(match Go.Proofs.YtgpbhjjajpbeeaaGreatDoor.bF b with|some r=>(some r,.ok,a)|none=>(none,.num 6,a))
 | (_,e,a)=>(none,if e.code=11 then .num 5 else e,a)
def D.removeAll(d:D):List Nm->Er×D
 | []=>(.ok,d)
 | n::l=>match d.remove n with|(.ok,a)=>a.removeAll l|(e,a)=>(e,a)
def D.sweep(d:D)(a:fC):Er×D:=
 match d.removeAll (d.list.filter λn=>!Z7 a n) with
 | (.ok,b)=>b.jc
 | (e,b)=>(e,b)
def D.clean(d:D):Er×D:=
 match d.bF with
 | (some r,_,a)=>a.sweep r.2
 | (none,e,a)=>(e,a)
theorem D.Calm.whole(h:d.Calm)(n:Nm):d.whole n=match d.file n with|none=>([],.file 11 n,d)|some b=>(b,.ok,d):=by
 unfold D.whole;rw[h.size]
 cases e:d.file n with
 | none=>rfl
 | some=>simp[h.jF,e,uC]
theorem D.Calm.bF(h:d.Calm):d.bF=match d.file y8 with|none=>(none,.num 5,d)|some b=>(match Go.Proofs.YtgpbhjjajpbeeaaGreatDoor.bF b with|some r=>(some r,.ok,d)|none=>(none,.num 6,d)):=by
 unfold D.bF;rw[h.whole]
 cases e:d.file _<;>rfl
theorem D.Calm.removeAll(h:d.Calm)(l:List Nm)(f:l.Nodup)(g:∀n∈l,n∈d.now.map (·.1)):
 d.removeAll l=(.ok,{d with now:=H8 d.now (l.map λn=>(n,none)),moves:=d.moves++l.map λn=>[(n,none)]}):=by
 induction l generalizing d with
 | nil=>simp[D.removeAll,H8]
 | cons n l k=>
  rw[qZ] at f;unfold D.removeAll;rw[h.remove (g n aZ)];show(d.mv _).removeAll l=_;rw[k (h.mv _) f.2 λm b=>?_]
  simp[D.mv,H8]
  refine bW λp=>?_;have i:A7 (qK _ n) m=none:=G8.2 p;rw[MO,if_neg (λe=>f.1<|e▸b:m≠n),G8] at i;grind
theorem b9X(l:List (Nm×Nat))(a:List Nm)(n:Nm):A7 (H8 l (a.map λn=>(n,none))) n=if n∈a then none else A7 l n:=by
 induction a generalizing l with
 | nil=>simp[H8]
 | cons m a d=>
  show A7 (H8 _<|a.map _) n=_;rw[d,MO];by_cases b:n∈a
  simp[b]
  grind
theorem b49(l:List (Nm×Nat))(a:List Nm):(a.map λn=>[(n,(none:Option Nat))]).foldl H8 l=H8 l (a.map λn=>(n,none)):=by
 induction a generalizing l with
 | nil=>rfl
 | cons m a b=>show List.foldl _ (H8 l _) _=_;rw[b];rfl
structure D.Safe(d:D):Prop where
 calm:d.Calm
 moves:d.moves=[]
 same:Jl d.safe d.now
 nodup:(d.now.map (·.1)).Nodup
 n_:(d.safe.map (·.1)).Nodup
 nodes:∀p∈d.safe,(d.node p.2).safe=(d.node p.2).data.length
theorem D.Safe.sweep(h:d.Safe)(a:fC):
 ∃e:D,d.sweep a=(.ok,e)/\e.Safe/\(∀n,e.file n=if Z7 a n=true then d.file n else none)/\e.ids=d.ids/\e.room=d.room/\e.node=d.node:=by
 let⟨l,i⟩:∃l,d.list.filter (λn=>!Z7 a n)=l:=⟨_,rfl⟩;have b:∀n,n∈l<->n∈d.now.map (·.1)/\Z7 a n=false:=by intro n;rw[<-i,dQ,zu];simp
 have r:d.sweep a=(.ok,{d with now:=H8 d.now<|l.map λn=>(n,none),safe:=H8 d.safe<|l.map λn=>(n,none),moves:=[]}):=by unfold D.sweep;rw[i,(h.calm.removeAll l (i▸(BW h.nodup).filter _) λn c=>((b n).1 c).1)];show D.jc _=_;rw[D.Calm.jc (d:={d with now:=H8 _<|l.map _,moves:=d.moves++l.map _}) h.calm];simp[h.moves,b49]
 refine⟨_,r,⟨h.calm,rfl,GO _ h.same,XF _ h.nodup,XF _ h.n_,?_⟩,?_,rfl,rfl,rfl⟩
 intro p g;apply h.nodes p;obtain g|⟨x,m,e⟩:=Xz g
 exact g
 obtain⟨n,_,rfl⟩:=aQ.1 m;cases e
 intro n;show(A7 _ n).map _=_;rw[b9X];by_cases f:Z7 a n=true
 rw[if_neg iL,if_pos f];rfl
 rw[if_neg f];by_cases c:n∈l
 rw[if_pos c];rfl
 rw[if_neg c];have:=λq=>c<|(b n).2 ⟨q,fU⟩;rw[G8.2 this];rfl
def PW(a:Fl)(b:fC):Bool:=a.all λp=>decide (p.1=y8)||(qW qx p.1||X6 b p.1)
end Dk
theorem EE(d:D)(n:Nm):(d.size n).2.2.ids=d.ids/\(d.size n).2.2.node=d.node/\(d.size n).2.2.now=d.now/\((d.size n).2.1≠.ok->(d.size n).1=0/\∃k,(d.size n).2.1=.file k n)/\
 ((d.size n).2.1=.ok->∃x,(x∈d.now.map Prod.snd)/\(d.size n).1=((d.node x).data.length:Nat)):=by
 have b:=QE d n
 cases a:(d.find n).1 with
 | none=>
  let⟨k,c⟩:=vd d n a;rw[Z_ a]
  simp_all
 | some x=>
  rw[ZL a];refine⟨b.2.2.1,b.2.2.2.1,b.2.1,λh=>absurd rfl h,λ_=>⟨x,?_,fU⟩⟩;unfold D.find at a;split at a
  cases a
  split at a
  cases a
  rename_i y e;injection a with a;subst a;exact aQ.2 ⟨_,Y4 e,rfl⟩
theorem yo(F:tyP)(a:Nat)(d:D)(name:Nm)(w:aB)(h:o7 w F a d)(N:name.length<=maxLen)(z:∀x∈d.ids,(d.node x).data.length<=35184372088832):
 Calls prog 55 #[l9 a,bJ name] w (ZC F a (d.whole name) w):=by
 have g:=size_any F a d name w h N;have c:=EE d name;have G:=h.wf;obtain⟨⟨k,o,J⟩,I⟩:∃r,d.size name=r:=⟨_,rfl⟩;have T:(o=.ok->d.whole name=J.jF name 0 k)/\(o≠.ok->d.whole name=([],o,J)):=by unfold D.whole;simp_all
 rw[I] at g c;dsimp only at c;clear I h;unfold l9 bJ at *;go_enter func55,ntmps55
 go_wp2_with fail
 refine g.mono ?_;rintro e L ⟨v,rfl,t,B,A⟩
 cases o with
 | ok=>
  obtain rfl:v=.nilIface:=t.get;obtain⟨x,l,V⟩:=c.2.2.2.2 rfl;obtain⟨p,K,rfl⟩:=aQ.1 l;have U:=z _ (G.now p K);have S:=ah (GE F a J name 0 k L B N aj aj (λx l=>by rw[c.2.1];rw[c.1] at l;have:=z x l;omega));clear B t c V l K;unfold l9 bJ at S;go_wp2_with fail
  refine S.out.mono ?_;rintro e X ⟨u,M,rfl,P,n,q,s,C⟩;have f:ZC F a (d.whole name) w (.returned (.tuple #[u,M])) X:=by rw[T.1 qc];exact⟨u,M,rfl,H6 P A.size,n,q,A.trans s,C⟩
  have H:=ah f;clear f P n q s;go_wp2;go_ret2
  exact H.out
 | num m=>simp_all
 | file m Z=>
  obtain⟨b,E,-⟩:=t.get;subst E;have f:ZC F a (d.whole name) w (.returned (.tuple #[.slice none 0 0,.iface 132 (.pointer (some b))])) L:=by rw[T.2 aZ];exact⟨_,_,rfl,⟨rfl,Or.inl ⟨rfl,rfl⟩⟩,t,B,A,wS.nil _ _ _⟩
  have H:=ah f;clear f t B c;go_wp2;go_ret2
  exact H.out
theorem se{w:aB}{e c:aX}(h:o6 w b 125 #[e,c])(g:Int)(v:aX):
 w.frozen? b=false/\(w.setCell b (.int .u64 g)).cell? ⟨b,1,none⟩=some c/\(w.setCell b (.int .u64 g)).frozen? ⟨b,1,none⟩=false/\
 ((w.setCell b (.int .u64 g)).setCell ⟨b,1,none⟩ v).cell? b=some (.int .u64 g)/\((w.setCell b (.int .u64 g)).setCell ⟨b,1,none⟩ v).cell? ⟨b,1,none⟩=some v:=by
 have a:=h.set 0<|.int .u64 g;have d:=a.set 1 v;refine⟨h.free 0,?_,a.free 1,?_,?_⟩
 rw[a.cell];simp
 rw[d.cell];simp
 rw[d.cell];simp
def d0g(F:tyP)(a:Nat)(r:Option (Nat×List Int)×Er×D)(w:aB)(e:Ending)(w':aB):Prop:=
 ∃g v y,e=.returned (.tuple #[.agg #[.int .u64 g,v],y])/\o7 w' F a r.2.2/\iq F F w w'/\
  ((r.1=none/\g=0/\v=.slice none 0 0/\r.2.1≠.ok/\Held w' F (λW=>ErrAt W y r.2.1))\/(∃c b,r.1=some (c,b)/\r.2.1=.ok/\g=(c:Int)/\y=.nilIface/\jd w' w v b))
theorem yn{w:World}{F:Nat->Prop}{v:Value}{m:Int}{nm:Nm}(h:Held w F (λW=>ErrAt W v (.file m nm))):∃b,v=.iface 132 (.pointer (some ⟨b,0,none⟩))/\o6 w b 134 #[bJ nm,.int .i64 m]/\¬F b:=by
 obtain⟨b,rfl,d⟩:=h.get;refine⟨b,rfl,d,λg=>?_⟩;let⟨S,j,l⟩:=h;let⟨n,e,a⟩:=l {w with heap:=w.heap.setIfInBounds b (.map #[] 0)} λk i=>by rw[bf (λe=>(j k i).2<|e▸g:b≠k)]
 injection e with _ e;injection e with e;injection e with e;injection e with e;subst e;have f:(w.heap.setIfInBounds b<|.map _ 0)[b]?=some _:=a;rw[dP d.lt] at f;cases f
theorem ry(d:D)(n:Nm):(d.whole n).2.1=.ok\/∃k,(d.whole n).2.1=.file k n:=by
 have b:=EE d n;unfold D.whole;let⟨⟨k,g,e⟩,h⟩:∃r,d.size n=r:=⟨_,rfl⟩;rw[h];cases g with
 | ok=>
  dsimp
  cases c:(e.find n).1 with
  | none=>
   let⟨j,a⟩:=vd e n c;rw[cA c]
   grind
  | some=>rw[bO c];simp
 | _=>grind
theorem b38(F:Nat->Prop)(a:Nat)(d:D)(w:World)(h:o7 w F a d)(hds:∀x∈d.ids,(d.node x).data.length<=35184372088832):
 Calls prog 54 #[l9 a] w (d0g F a d.bF w):=by
 have hx0:o6 (w.alloc (.cells #[.int .u64 0,.slice none 0 0] 125)) w.heap.size 125 #[.int .u64 0,.slice none 0 0]:=jR _ _ rfl;have M:Ext w (w.alloc (.cells #[.int .u64 0,.slice none 0 0] 125)):=(dh w).new _;have K:=yo F a d y8 _ (h.ext M) (by unfold y8 maxLen;simp) hds;have B:=h.low;obtain⟨⟨bs,N,I⟩,hr⟩:∃r,d.whole y8=r:=⟨_,rfl⟩;have z:(N=.ok->d.bF=match bF bs with|some r=>(some r,.ok,I)|none=>(none,.num 6,I))/\(N≠.ok->d.bF=(none,if N.code=11 then .num 5 else N,I)):=by
  unfold D.bF;rw[hr];cases N
  ·exact⟨λ_=>rfl,λh=>absurd rfl h⟩
  ·exact⟨λh=>(by cases h),λ_=>rfl⟩
  ·exact⟨λh=>(by cases h),λ_=>rfl⟩
 have hcl:=ry d y8;rw[hr] at hcl;rw[hr] at K;have HW:=ah K;have E:=ah z;have HX:=ah hx0;have HE:=ah M;have HL:=ah B;clear K z hr hx0 M B h;unfold l9 bJ at *;unfold y8 at HW;go_enter func54,ntmps54
 go_wp2_with fail
 refine HW.out.mono ?_;rintro e P ⟨u,v,rfl,hB,hv,hD,hC,-⟩;have hxb:=HX.out;have p:o6 P w.heap.size 125 #[.int .u64 0,.slice none 0 0]:=(hC.block _ hxb.lt (λZ=>by have:=HL.out _ Z;omega)).trans hxb;have yR:=(iV (F:=F) HE.out).trans hC;have U:=j0 N v 11 P hv.get aj;have X:w.heap.size<=P.heap.size:=yR.size;have V:=hB.bytes;have c0:=(p.cell 0).trans (show _=some (Value.int .u64 0) from rfl);have c1:=(p.cell 1).trans (show _=some (Value.slice none 0 0) from rfl);have f0:=p.free 0;have f1:=p.free 1;have n:=ah U;have ED:=ah p;have A:=ah yR;have HV:=ah hv;have Y:=ah hD;have Yq:=ah V;clear U p yR hC hD V HX HW;unfold lK at n
 cases N with
 | ok=>
  obtain rfl:v=.nilIface:=HV.out.get;have z:=b4y u bs P Yq.out;have yx:=ah z;clear z hv hB;go_wp2_with fail
  refine n.out.mono ?_;rintro e w2 ⟨rfl,rfl⟩;go_wp2_with fail
  refine yx.out.mono ?_;rintro e w3 ⟨g,v3,y,rfl,jM,L⟩;have s:o6 w3 w.heap.size 125 #[.int .u64 0,.slice none 0 0]:=(jM.block _ ED.out.lt).trans ED.out;have d0:=(s.cell 0).trans (show _=some (Value.int .u64 0) from rfl);have d1':=(s.cell 1).trans (show _=some (Value.slice none 0 0) from rfl);obtain⟨z1,z2,z3,z4,z5⟩:=se s g v3;have hD3:=Y.out.ext jM;have R:=A.out.trans (iV jM);have T:∀b,F b->b≠w.heap.size:=λb l=>by have:=HL.out b l;omega
  have i:=((Off.refl w.heap.size w3).setCell 0 (.int .u64 g)).setCell 1 v3;have o:=hD3.frame (λb l=>i.block b (T b l)) (fE i.size.symm);have J:iq F F w ((w3.setCell ⟨w.heap.size,0,none⟩ (.int .u64 g)).setCell ⟨w.heap.size,1,none⟩ v3):=
   ⟨i.os.trans R.os,i.tape.trans R.tape,i.output.trans R.output,by rw[i.size];exact R.size,λb l Z=>(i.block b aj).trans (R.block b l Z),λb l=>.inl l⟩
  have q:=ah o;have S:=ah J;have HO:=ah i;have HX3:=ah s;clear hD3 R o J i s T Y A HV yx n;rcases L with⟨hno,rfl,rfl,rfl⟩|⟨H,O,hso,rfl,rfl,t⟩
  ·have f:d.bF=(none,.num 6,I):=by rw[E.out.1 qc,hno]
   have k:=ah f;clear f hno E;unfold lK;go_wp2;refine bodyPost_ret (v:=.tuple #[.agg #[.int .u64 0,.slice none 0 0],lK 6]) (by simp[results,results54,go_sem,z4,z5,lK]) rfl ⟨0,_,_,rfl,?_,?_,Or.inl ⟨?_,rfl,rfl,?_,?_⟩⟩
   ·rw[k.out];exact q.out
   ·exact S.out
   ·rw[k.out]
   ·rw[k.out];simp
   ·rw[k.out];exact sr _ _ _
  ·obtain⟨ia,ic,hv3⟩:=ownsRow_form t;subst hv3;have f:d.bF=(some (H,O),.ok,I):=by rw[E.out.1 qc,hso]
   have k:=ah f;have G:=ah t;clear f hso E t;go_wp2;refine bodyPost_ret (v:=.tuple #[.agg #[.int .u64 H,.slice ia O.length ic],.nilIface]) (by simp[results,results54,go_sem,z4,z5]) rfl ⟨_,_,_,rfl,?_,?_,Or.inr ⟨H,O,?_,?_,rfl,rfl,?_⟩⟩
   ·rw[k.out];exact q.out
   ·exact S.out
   ·rw[k.out]
   ·rw[k.out]
   ·have hne:=I4 G.out HX3.out dA
    exact H6 (jH.row G.out _ λb l=>HO.out.block b λe=>hne (e▸l)) X
 | num m=>rcases hcl with h|⟨_,h⟩<;>cases h
 | file m nm=>
  obtain⟨fb,hvb,C,BQ⟩:=yn HV.out;subst hvb;obtain⟨z1,z2,z3,z4,z5⟩:=se ED.out 0 (.slice none 0 0);have T:∀b,F b->b≠w.heap.size:=λb l=>by have:=HL.out b l;omega
  have i:=((Off.refl w.heap.size P).setCell 0 (.int .u64 0)).setCell 1 (.slice none 0 0);have o:=Y.out.frame (λb l=>i.block b (T b l)) (fE i.size.symm);have J:iq F F w ((P.setCell ⟨w.heap.size,0,none⟩ (.int .u64 0)).setCell ⟨w.heap.size,1,none⟩ (.slice none 0 0)):=
   ⟨i.os.trans A.out.os,i.tape.trans A.out.tape,i.output.trans A.out.output,by rw[i.size];exact A.out.size,λb l Z=>(i.block b aj).trans (A.out.block b l Z),λb l=>.inl l⟩
  have Ky:fb≠w.heap.size:=λe=>by subst e;have h3:=ED.out;unfold o6 at h3 C;rw[h3] at C;injection C with C;injection C with h4 h5 h6;revert h5;decide
  have OY:Held ((P.setCell ⟨w.heap.size,0,none⟩ (.int .u64 0)).setCell ⟨w.heap.size,1,none⟩ (.slice none 0 0)) F (λW=>ErrAt W (.iface 132 (.pointer (some ⟨fb,0,none⟩))) (.file m nm)):=
   (Held.box ((i.block fb Ky).trans C) BQ).mono λW hW=>⟨_,rfl,hW⟩
  by_cases hm:m=11
  ·subst hm;have f:d.bF=(none,.num 5,I):=E.out.2 aZ;have q:=ah o;have S:=ah J;have k:=ah f;clear o J f T i Y A E hv hB Yq OY C BQ Ky;have hd:decide (Er.code (.file 11 nm)=11)=true:=rfl;rw[hd] at n;clear hd;go_wp2_with fail
   refine n.out.mono ?_;rintro e w2 ⟨rfl,rfl⟩;go_wp2;refine bodyPost_ret (v:=.tuple #[.agg #[.int .u64 0,.slice none 0 0],lK 5]) (by simp[results,results54,go_sem,z4,z5,lK]) rfl ⟨0,_,_,rfl,?_,?_,Or.inl ⟨?_,rfl,rfl,?_,?_⟩⟩
   ·rw[k.out];exact q.out
   ·exact S.out
   ·rw[k.out]
   ·rw[k.out];simp
   ·rw[k.out];exact sr _ _ _
  ·have f:d.bF=(none,.file m nm,I):=by have:=E.out.2 aZ;rw[this];simp[Er.code,hm]
   have q:=ah o;have S:=ah J;have k:=ah f;have fu:=ah OY;clear o J f T i Y A E hv hB Yq OY C BQ Ky;have hd:decide (Er.code (.file m nm)=11)=false:=aK hm;rw[hd] at n;clear hd;go_wp2_with fail
   refine n.out.mono ?_;rintro e w2 ⟨rfl,rfl⟩;go_wp2;refine bodyPost_ret (v:=.tuple #[.agg #[.int .u64 0,.slice none 0 0],.iface 132 (.pointer (some ⟨fb,0,none⟩))]) (by simp[results,results54,go_sem,z4,z5,lK]) rfl ⟨0,_,_,rfl,?_,?_,Or.inl ⟨?_,rfl,rfl,?_,?_⟩⟩
   ·rw[k.out];exact q.out
   ·exact S.out
   ·rw[k.out]
   ·rw[k.out];simp
   ·rw[k.out];exact fu.out
theorem Y2(v:aX)(l:dV)(w:aB)(h:Bytes w v l)(u:l.length<=8):
 Calls prog 75 #[v] w λe w'=>e=.returned (.int .u64 (num l))/\w=w':=by
 obtain⟨a,o,rfl,t,n,d⟩:=h.open;go_enter func75,ntmps75
 go_wp2;go_loop [3,4] (λc i=>∃k:Nat,k<=l.length/\i=.int .i64 k/\c=.int .u64 (num (l.take k))) (λ_ i=>l.length - (intOf i).toNat)
 case atStart=>exact⟨0,dD _,rfl,rfl⟩
 case round=>
  obtain⟨k,r,rfl,rfl⟩:=hrel;by_cases f:k<l.length
  obtain⟨b,rfl,y⟩:=d k f;have p:Hid (num (l.take (k+1))=num (l.take k)*256+l[k].toNat):=by
   have e:num (l.take (k+1))=num (l.take k)*256+l[k].toNat:=by rw[take_snoc l k f,wh]
   exact e
  have g:num (l.take k)<256^7:=aF (PX _) (kF aj Ea);clear d;generalize num (l.take k)=C at *;have s:=LQ l[k];generalize l[k]=x at *;have q:=g;clear g;go_wp2;go_round
  case rel=>refine⟨k+1,aj,iE,?_⟩;rw[p.out];go_num
  case measure=>simp[intOf];omega
  go_wp2;go_ret;obtain rfl:k=l.length:=aj
  simp
theorem Z4(v:aX)(B:Nat)(l:dV)(n k:Nat)(w:aB)(h:OwnB w B v l)(x:k<=8)(K:l.length<=1000000)(I:B<=w):
 Calls prog 89 #[v,.int .u64 n,.int .i64 k] w (fe B (l++be n k) w):=by
 obtain⟨D,F,s,r,q⟩:=info_parts Dq;have z:IntKind.i64.wrap ((k:Int) - 1)=(k:Int) - 1:=IntWalk.i64_in _ aj;go_enter func89,ntmps89
 go_wp2;go_loopw [0,7] (λu c wr=>∃j:Nat,j<=k/\c=.int .i64 ((j:Int) - 1)/\(∃g,g++be n j=l++be n k/\OwnB wr B u g)/\Below B w wr) (λ_ c _=>(intOf c+1).toNat)
 case atStart=>exact⟨k,ak _,rfl,⟨l,rfl,h⟩,Below.refl _ _⟩
 case round=>
  obtain⟨j,M,rfl,⟨g,e,d⟩,p⟩:=hrel;by_cases C:0<j
  ·obtain⟨j,rfl⟩:∃i,j=i+1:=⟨j - 1,aj⟩;rw[show((j+1:Nat):Int) - 1=(j:Int) from aj];have H:IntKind.i64.wrap (8*(j:Int))=8*(j:Int):=IntWalk.i64_in _ aj;have o:(0:Int)<=8*(j:Int):=aj
   have t:g.length<=1000008:=by have:=congrArg List.length e;simp only[aC,H7] at this;omega
   have E:=p.size;go_wp2_with (at_builtin;go_must (refine wpList_append_lies _ rfl _ _ _ rfl B 5 D _ 1 1 underlying25 F s r q rfl aj _ g.length (g.map eG) rfl (d.alloc _) wr 1 1 [_] rfl rfl (World.news_of_block (cs:=#[_]) (t:=5) (fr:=(0,0)) (heap_alloc_new wr _)) qV aj lJ aj iw (wr+1) aZ ?_);intro L G J b f A y)
   go_roundw
   case rel=>
    refine⟨j,aj,rfl,⟨g++[UInt8.ofNat (n/256^j)],by rw[iM];exact e,?_⟩,?_⟩
    ·rw[c4Q] at b;unfold OwnB;rw[aC,aY];exact b
    ·exact(p.alloc aj _).grown f iw (λk x=>(d.lt k x).1)
   case measure=>simp[intOf]
  ·obtain rfl:j=0:=aj
   go_wp2;go_ret;simp[be,dX] at e;subst e;exact⟨_,rfl,d,p⟩
def z_(b:Nat)(k v:ByteArray)(d:Bool)(a:Int):Value:=.agg #[.int .u64 b,.string k,.string v,.bool d,.int .i64 a]
def im(n:Int)(w:aB)(e:Ending)(w':aB):Prop:=e=.returned (.tuple #[.slice none 0 0,.int .i64 n])/\Ext w w'
def b8d(l:dV)(w:aB)(e:Ending)(w':aB):Prop:=∃v,e=.returned (.tuple #[v,.int .i64 0])/\OwnB w' w v l/\Ext w w'
theorem Qo(w:aB)(x:aX)(t:bT):vF (w.alloc (.cells #[x] t)) (.slice (some ⟨w,0,none⟩) 1 1) 1 [x]:=
 ⟨_,_,rfl,ak _,⟨aj,λh=>by cases h⟩,λ_=>⟨_,rfl,λi y a=>World.news_of_block (heap_alloc_new w _) i y a⟩⟩
theorem b1Z(b:Nat)(k v:ByteArray)(d:Bool)(sz:Int)(w:aB)(h:k.size<1\/16<k.size):
 Calls prog 49 #[z_ b k v d sz] w (im 1 w):=by
 unfold z_;rcases h with h|h
 ·have c:((k.size:Int)==0)=true:=fO.2 aj;go_enter func49,ntmps49
  go_wp2;go_ret2
  exact⟨rfl,Below.alloc (Below.refl _ _) (ak _) _⟩
 ·have c:((k.size:Int)==0)=false:=bG.2 aj;go_enter func49,ntmps49
  go_wp2;go_ret2
  exact⟨rfl,Below.alloc (Below.refl _ _) (ak _) _⟩
theorem b2a(seq:Nat)(k v:ByteArray)(d:Bool)(sz:Int)(w:aB)(h1:1<=k.size)(h2:k.size<=16)(h:64<v.size\/(v.size<=64/\d=true/\0<v.size)):
 Calls prog 49 #[z_ seq k v d sz] w (im 2 w):=by
 unfold z_;have h0:((k.size:Int)==0)=false:=bG.2 aj;have h'':¬16<k.size:=aj
 rcases h with h|⟨h,rfl,hv⟩
 ·go_enter func49,ntmps49
  go_wp2;go_ret2
  exact⟨rfl,Below.alloc (Below.refl _ _) (ak _) _⟩
 ·have hv':v.toList.isEmpty=false:=by rw[Ft];exact aK aj
  go_enter func49,ntmps49
  go_wp2;go_ret2
  exact⟨rfl,Below.alloc (Below.refl _ _) (ak _) _⟩
theorem b4C(seq:Nat)(k v:ByteArray)(d:Bool)(sz:Int)(w:aB)(h1:1<=k.size)(h2:k.size<=16)(hv:v.size<=64)(h:d=false\/v.size=0):
 Calls prog 49 #[z_ seq k v d sz] w (b8d (summed (body seq k.data.toList v.data.toList d)) w):=by
 unfold z_;obtain⟨i0,hi,hz0,hz1,hz2⟩:=info_parts Dq;have h0:((k.size:Int)==0)=false:=bG.2 aj;have h'':¬16<k.size:=aj
 have h3:¬64<v.size:=aj
 have hwk:IntKind.u64.wrap (k.size:Int)=(k.size:Int):=yT
 have hwv:IntKind.u64.wrap (v.size:Int)=(v.size:Int):=yT
 rcases Yu d with rfl|rfl
 ·have hv':v.toList.isEmpty=true:=by rw[Ft];exact aN (by simpa using h)
  go_enter func49,ntmps49
  go_wp2_with fail
  have hx:o6 (w.alloc (.cells #[.int .u64 seq,.string k,.string v,.bool true,.int .i64 sz] 116)) w 116 #[.int .u64 seq,.string k,.string v,.bool true,.int .i64 sz]:=heap_alloc_new w _;have hb:Below (w+1) (w.alloc (.cells #[.int .u64 seq,.string k,.string v,.bool true,.int .i64 sz] 116)) (w.alloc (.cells #[.int .u64 seq,.string k,.string v,.bool true,.int .i64 sz] 116)):=Below.refl _ _;have hs:w.heap.size+1<=(w.alloc (.cells #[.int .u64 seq,.string k,.string v,.bool true,.int .i64 sz] 116)).heap.size:=aZ
  refine(Z4 _ (w+1) ([]) (seq) 8 _ (World.ownsRow_nil _ _ _ _) aj Po hs).mono ?_;rintro e w2 ⟨v2,rfl,hown,hbn⟩;replace hx:=hx.below hbn aj;replace hs:=ay hs hbn.size;replace hb:=hb.trans hbn;clear hbn;have Ux:w2.cell? ⟨w,3,none⟩=some (.bool true):=hx.cell 3;rw[eF] at hown;have hs2:w.heap.size+1<=w2.heap.size:=hs;have e3:(be seq 8++be 1 1).map eG=(be seq 8).map eG++[.int .u8 1]:=by rw[aY];rfl
  have e3':(be seq 8++be 1 1).length=(be seq 8).length+1:=Eb
  have E3:=ah e3;clear e3;have PC:=ah e3';clear e3';go_wp2_with (at_builtin;go_must (refine A8 rfl _ _ 25 rfl (w+1) 5 i0 (.int .u8 0) 1 1 underlying25 hi hz0 hz1 hz2 rfl aj v2 _ _ rfl (hown.alloc _) _ 1 [.int .u8 1] rfl (Qo w2 _ _) rfl qV (by simp[H7,maxLen]) Eb iw ?_);intro b3 c3 w3 hown3 hgrow3 KJ;clear KJ;have hx3:=(hx.alloc (.cells #[.int .u8 1] 5)).grown hgrow3 (λk hk=>by have:=(hown.lt k hk).1;omega);have hc31:w3.cell? ⟨w,1,none⟩=some (.string k):=hx3.cell 1)
  replace hb:=(hb.alloc hs (.cells #[.int .u8 1] 5)).grown hgrow3 iw (λk hk=>(hown.lt k hk).1);replace hs:w.heap.size+1<=w3.heap.size:=by have:=hgrow3.size;simp at this;omega
  clear hx hown hs2;have hx:=hx3;have hown:OwnB w3 (w+1) (.slice b3 ((be seq 8).length+1) c3) (be seq 8++be 1 1):=by unfold OwnB;rw[E3.out,PC.out];exact hown3
  clear hown3 hgrow3 hx3;refine(Z4 _ (w+1) (be seq 8++be 1 1) (k.size) 1 _ hown aj Po hs).mono ?_;rintro e w4 ⟨v4,rfl,hown,hbn⟩;replace hx:=hx.below hbn aj;replace hs:=ay hs hbn.size;replace hb:=hb.trans hbn;clear hbn;have Uw:w4.cell? ⟨w,2,none⟩=some (.string v):=hx.cell 2;go_wp2_with fail
  refine(Z4 _ (w+1) (be seq 8++be 1 1++be k.size 1) (v.size) 2 _ hown aj Po hs).mono ?_;rintro e w5 ⟨v5,rfl,hown,hbn⟩;replace hx:=hx.below hbn aj;replace hs:=ay hs hbn.size;replace hb:=hb.trans hbn;clear hbn;have Uu:w5.cell? ⟨w,1,none⟩=some (.string k):=hx.cell 1;generalize hL:be seq 8++be 1 1++be k.size 1++be v.size 2=L5 at *;have UU:L5.length=12:=by rw[<-hL];simp[H7]
  have HL:=ah hL;clear hL;have Ie:=ah UU;clear UU;go_wp2_with (first|(at_builtin;refine wpList_append_text rfl _ _ 25 9 rfl (w+1) 5 i0 underlying25 underlying9 hi hz0 hz1 hz2 v5 L5 rfl hown k rfl (by rw[Ie.out];unfold maxLen;omega) (by rw[Ie.out];omega) hs ?_;intro b6 c6 w6 hown6 hgrow6;have hx6:=hx.grown hgrow6 (λk hk=>by have:=(hown.lt k hk).1;omega);have KG:w6.cell? ⟨w,2,none⟩=some (.string v):=hx6.cell 2;have hs6:w.heap.size+1<=w6.heap.size:=ay hs hgrow6.size)|(at_builtin;refine wpList_append_text rfl _ _ 25 9 rfl (w+1) 5 i0 underlying25 underlying9 hi hz0 hz1 hz2 (.slice b6 (L5.length+k.size) c6) (L5++k.data.toList) rfl hown6 v rfl (by rw[aC,P8,Ie.out];unfold maxLen;omega) (by rw[aC,P8,Ie.out];omega) hs6 ?_;intro b7 c7 w7 kC oq))
  replace hb:=(hb.grown hgrow6 hs (λk hk=>(hown.lt k hk).1)).grown oq hs6 (λk hk=>(hown6.lt k hk).1);have hs7:w.heap.size+1<=w7.heap.size:=ay hs6 oq.size;have hI:OwnB w7 (w+1) (.slice b7 (L5.length+k.size+v.size) c7) (body seq k.data.toList v.data.toList true):=by rw[show(L5++k.data.toList).length=L5.length+k.size by rw[aC,P8]] at kC;rw[show L5++k.data.toList++v.data.toList=body seq k.data.toList v.data.toList true by rw[<-HL.out];simp[body,P8]] at kC;exact kC
  have hIl:(body seq k.data.toList v.data.toList true).length<=92:=by simp[body,H7,P8];omega
  clear kC oq hown6 hgrow6 hx hx6 KG hs6 hs;generalize Value.slice b7 (L5.length+k.size+v.size) c7=v7 at *;generalize body seq k.data.toList v.data.toList true=I at *;refine(Xh v7 I w7 hI.bytes).mono ?_;rintro e w8 ⟨rfl,rfl⟩;have hwc:IntKind.u64.wrap ((crc I:Nat):Int)=((crc I:Nat):Int):=by rw[IntKind.wrap_u64];have:=Ep I;omega
  go_wp2_with fail
  refine(Z4 _ w7 [] (crc I) 4 _ (World.ownsRow_nil _ _ _ _) aj aZ (ak _)).mono ?_;rintro e w9 ⟨v9,rfl,jX,uY⟩;rw[eF] at jX;generalize hC:be (crc I) 4=C at *;have zU:C.length=4:=by rw[<-hC,H7]
  have HC:=ah hC;clear hC;have Ij:=ah zU;clear zU;clear hwc;go_wp2_with (at_builtin;go_must (refine A8 rfl _ _ 25 rfl w7 5 i0 (.int .u8 0) 1 1 underlying25 hi hz0 hz1 hz2 rfl aj v9 C.length _ rfl jX v7 I.length (I.map eG) rfl (hI.bytes.ext uY) aZ (Dv _) (by rw[Ij.out];unfold maxLen;omega) (by rw[Ij.out];omega) uY.size ?_);intro b10 c10 w10 mJ lG qJ;clear qJ)
  go_ret2
  refine⟨_,rfl,?_,?_⟩
  ·unfold OwnB;have e1:(summed I).map eG=C.map eG++I.map eG:=by rw[<-aY,summed,HC.out]
   have e2:(summed I).length=C.length+I.length:=by rw[summed,HC.out,aC]
   rw[e1,e2];exact H6 mJ aj
  ·have h9:Below (w+1) w7 w10:=(uY.mono hs7).grown lG (ay hs7 uY.size) (λk hk=>by have:=(jX.lt k hk).1;omega);exact(Below.alloc (Below.refl _ _) (ak _) _).trans ((hb.trans h9).mono aj)
 ·go_enter func49,ntmps49
  go_wp2_with fail
  have hx:o6 (w.alloc (.cells #[.int .u64 seq,.string k,.string v,.bool false,.int .i64 sz] 116)) w 116 #[.int .u64 seq,.string k,.string v,.bool false,.int .i64 sz]:=heap_alloc_new w _;have hb:Below (w+1) (w.alloc (.cells #[.int .u64 seq,.string k,.string v,.bool false,.int .i64 sz] 116)) (w.alloc (.cells #[.int .u64 seq,.string k,.string v,.bool false,.int .i64 sz] 116)):=Below.refl _ _;have hs:w.heap.size+1<=(w.alloc (.cells #[.int .u64 seq,.string k,.string v,.bool false,.int .i64 sz] 116)).heap.size:=aZ
  refine(Z4 _ (w+1) ([]) (seq) 8 _ (World.ownsRow_nil _ _ _ _) aj Po hs).mono ?_;rintro e w2 ⟨v2,rfl,hown,hbn⟩;replace hx:=hx.below hbn aj;replace hs:=ay hs hbn.size;replace hb:=hb.trans hbn;clear hbn;have Ux:w2.cell? ⟨w,3,none⟩=some (.bool false):=hx.cell 3;rw[eF] at hown;have hs2:w.heap.size+1<=w2.heap.size:=hs;have e3:(be seq 8++be 0 1).map eG=(be seq 8).map eG++[.int .u8 0]:=by rw[aY];rfl
  have e3':(be seq 8++be 0 1).length=(be seq 8).length+1:=Eb
  have E3:=ah e3;clear e3;have PC:=ah e3';clear e3';go_wp2_with (at_builtin;go_must (refine A8 rfl _ _ 25 rfl (w+1) 5 i0 (.int .u8 0) 1 1 underlying25 hi hz0 hz1 hz2 rfl aj v2 _ _ rfl (hown.alloc _) _ 1 [.int .u8 0] rfl (Qo w2 _ _) rfl qV (by simp[H7,maxLen]) Eb iw ?_);intro b3 c3 w3 hown3 hgrow3 KJ;clear KJ;have hx3:=(hx.alloc (.cells #[.int .u8 0] 5)).grown hgrow3 (λk hk=>by have:=(hown.lt k hk).1;omega);have hc31:w3.cell? ⟨w,1,none⟩=some (.string k):=hx3.cell 1)
  replace hb:=(hb.alloc hs (.cells #[.int .u8 0] 5)).grown hgrow3 iw (λk hk=>(hown.lt k hk).1);replace hs:w.heap.size+1<=w3.heap.size:=by have:=hgrow3.size;simp at this;omega
  clear hx hown hs2;have hx:=hx3;have hown:OwnB w3 (w+1) (.slice b3 ((be seq 8).length+1) c3) (be seq 8++be 0 1):=by unfold OwnB;rw[E3.out,PC.out];exact hown3
  clear hown3 hgrow3 hx3;refine(Z4 _ (w+1) (be seq 8++be 0 1) (k.size) 1 _ hown aj Po hs).mono ?_;rintro e w4 ⟨v4,rfl,hown,hbn⟩;replace hx:=hx.below hbn aj;replace hs:=ay hs hbn.size;replace hb:=hb.trans hbn;clear hbn;have Uw:w4.cell? ⟨w,2,none⟩=some (.string v):=hx.cell 2;go_wp2_with fail
  refine(Z4 _ (w+1) (be seq 8++be 0 1++be k.size 1) (v.size) 2 _ hown aj Po hs).mono ?_;rintro e w5 ⟨v5,rfl,hown,hbn⟩;replace hx:=hx.below hbn aj;replace hs:=ay hs hbn.size;replace hb:=hb.trans hbn;clear hbn;have Uu:w5.cell? ⟨w,1,none⟩=some (.string k):=hx.cell 1;generalize hL:be seq 8++be 0 1++be k.size 1++be v.size 2=L5 at *;have UU:L5.length=12:=by rw[<-hL];simp[H7]
  have HL:=ah hL;clear hL;have Ie:=ah UU;clear UU;go_wp2_with (first|(at_builtin;refine wpList_append_text rfl _ _ 25 9 rfl (w+1) 5 i0 underlying25 underlying9 hi hz0 hz1 hz2 v5 L5 rfl hown k rfl (by rw[Ie.out];unfold maxLen;omega) (by rw[Ie.out];omega) hs ?_;intro b6 c6 w6 hown6 hgrow6;have hx6:=hx.grown hgrow6 (λk hk=>by have:=(hown.lt k hk).1;omega);have KG:w6.cell? ⟨w,2,none⟩=some (.string v):=hx6.cell 2;have hs6:w.heap.size+1<=w6.heap.size:=ay hs hgrow6.size)|(at_builtin;refine wpList_append_text rfl _ _ 25 9 rfl (w+1) 5 i0 underlying25 underlying9 hi hz0 hz1 hz2 (.slice b6 (L5.length+k.size) c6) (L5++k.data.toList) rfl hown6 v rfl (by rw[aC,P8,Ie.out];unfold maxLen;omega) (by rw[aC,P8,Ie.out];omega) hs6 ?_;intro b7 c7 w7 kC oq))
  replace hb:=(hb.grown hgrow6 hs (λk hk=>(hown.lt k hk).1)).grown oq hs6 (λk hk=>(hown6.lt k hk).1);have hs7:w.heap.size+1<=w7.heap.size:=ay hs6 oq.size;have hI:OwnB w7 (w+1) (.slice b7 (L5.length+k.size+v.size) c7) (body seq k.data.toList v.data.toList false):=by rw[show(L5++k.data.toList).length=L5.length+k.size by rw[aC,P8]] at kC;rw[show L5++k.data.toList++v.data.toList=body seq k.data.toList v.data.toList false by rw[<-HL.out];simp[body,P8]] at kC;exact kC
  have hIl:(body seq k.data.toList v.data.toList false).length<=92:=by simp[body,H7,P8];omega
  clear kC oq hown6 hgrow6 hx hx6 KG hs6 hs;generalize Value.slice b7 (L5.length+k.size+v.size) c7=v7 at *;generalize body seq k.data.toList v.data.toList false=I at *;refine(Xh v7 I w7 hI.bytes).mono ?_;rintro e w8 ⟨rfl,rfl⟩;have hwc:IntKind.u64.wrap ((crc I:Nat):Int)=((crc I:Nat):Int):=by rw[IntKind.wrap_u64];have:=Ep I;omega
  go_wp2_with fail
  refine(Z4 _ w7 [] (crc I) 4 _ (World.ownsRow_nil _ _ _ _) aj aZ (ak _)).mono ?_;rintro e w9 ⟨v9,rfl,jX,uY⟩;rw[eF] at jX;generalize hC:be (crc I) 4=C at *;have zU:C.length=4:=by rw[<-hC,H7]
  have HC:=ah hC;clear hC;have Ij:=ah zU;clear zU;clear hwc;go_wp2_with (at_builtin;go_must (refine A8 rfl _ _ 25 rfl w7 5 i0 (.int .u8 0) 1 1 underlying25 hi hz0 hz1 hz2 rfl aj v9 C.length _ rfl jX v7 I.length (I.map eG) rfl (hI.bytes.ext uY) aZ (Dv _) (by rw[Ij.out];unfold maxLen;omega) (by rw[Ij.out];omega) uY.size ?_);intro b10 c10 w10 mJ lG qJ;clear qJ)
  go_ret2
  refine⟨_,rfl,?_,?_⟩
  ·unfold OwnB;have e1:(summed I).map eG=C.map eG++I.map eG:=by rw[<-aY,summed,HC.out]
   have e2:(summed I).length=C.length+I.length:=by rw[summed,HC.out,aC]
   rw[e1,e2];exact H6 mJ aj
  ·have h9:Below (w+1) w7 w10:=(uY.mono hs7).grown lG (ay hs7 uY.size) (λk hk=>by have:=(jX.lt k hk).1;omega);exact(Below.alloc (Below.refl _ _) (ak _) _).trans ((hb.trans h9).mono aj)
end Go.Proofs.YtgpbhjjajpbeeaaGreatDoor
