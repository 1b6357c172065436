/-
  Again: for any directory (built by the law out of any rows of records), all segments merged, and merged once more: the law 'Again' of the given program answers as its card says, whatever the schedule of its goroutines.
  Conditions: none but the card's own.
-/
import Derived.Test.YtgpbhjjajpbeeaaGreatDoorA27
set_option linter.all false
set_option maxRecDepth 100000
open Go.Proofs.Tryz
namespace Go.Proofs.YtgpbhjjajpbeeaaGreatDoor
open Go.RowKit Go.Lib Go.Maps Dk Pl Go.Conc Go.Mw To
variable{B b k n r:Nat}{Z:Zn.Zone}
section
open Zn (tp Full kH VP Zf Le)
noncomputable def c92:Array Oper:=Code.ops (gB 11)
noncomputable def dm:Array Oper:=Code.ops (gB 13)
noncomputable def c94:Array Oper:=Code.ops (gB 17)
def c95:nJ 8=P_ gB (nJ 11) 3 8:=rfl
def c83:nJ 11=.seq (.region 17 c92 false) (nJ 12):=rfl
def c84:nJ 12=P_ gB (nJ 13) 1 12:=rfl
def c86:nJ 13=.seq (.region 19 dm false) (nJ 14):=rfl
def c88:nJ 14=P_ gB (nJ 17) 3 14:=rfl
def c89:nJ 17=.seq (.region 25 c94 false) (nJ 18):=rfl
def c2p:([gB 8,gB 9,gB 10,gB 12,gB 14,gB 15,gB 16,nJ 18].all λc=>Zn.nU zb c&&Zn.mG Eh c)=true:=rfl
theorem Jm{c:Code}(h:c∈[gB 8,gB 9,gB 10,gB 12,gB 14,gB 15,gB 16,nJ 18]):Zn.nU zb c=true/\Zn.iW (λk=>Eh k=true) c:=by have:=aU.1 c2p c h;simp at this;exact⟨this.1,Zn.mG.sound this.2⟩
def S5(d1 a b:Nat):List (Option Nat×Op×Option (Nat×Bool)):=
 [(some d1,.move (.tmp 5),none),(some a,.move (.tmp 7),none),(some b,.call {callee:=.value (.func 38),args:=#[.tmp d1,.tmp a],argTypes:=#[30,69]},none),(some 9,.assign (.tmp b),none)]
section
variable[Go.ConcR.Payload][To.Lo]{Sh F:Nat->Prop}{w:World}{T:Array Value}{Q:Exit->Act->World->(Nat->Prop)->Prop}{a gen c:Nat}{D:Dk.D}{ids:List Int}{bss:List (List UInt8)}{v:Value}{fn:FuncId}{ops:Array Oper}
theorem Ws{v:aX}(b:Iv zone Sh (λk=>Eh k=true) ⟨T,[]⟩ w)(c:Eh k=true)(h:T[k]?=some v):VP (Zf zone Sh w) v:=by have:=b.tmps k c;simp_all
theorem LE(d1 f l:Nat){id:Nat}(i:ops.toList.map (λo=>(o.dst,o.op,o.guard))=S5 d1 f l)(N:d1<108/\f<108/\l<108/\d1≠f/\9<d1/\9<f/\9<l)(m:Iv zone Sh (λk=>Eh k=true) ⟨T,[]⟩ w)(L:T.size=108)(A:T[5]?=some (l9 a))(z:T[7]?=some v)
 (s:prog.globals.size<=w)(hi:Held w F (λW=>Ints W v ids))(S:o7 w F a D)(Y:Ready D c gen ids bss)(M:c<=1000)(t:Held w F S9)(G:ids≠[])
 (d:∀w' b T',qe F Sh a D gen ids bss w .nilIface w' b->T'.size=108->T'[9]?=some .nilIface->(∀k,k≠d1->k≠f->k≠l->k≠9->T'[k]?=T[k]?)->Iv zone b (λk=>Eh k=true) ⟨T',[]⟩ w'->Q .normal ⟨T',[]⟩ w' b):
 mX prog fn (.region id ops false) Q ⟨T,[]⟩ w Sh:=by
 have r:=by have:=congrArg List.length i;simpa [S5] using this
 obtain⟨P,J,U,q,e1,e2,e3⟩:=N;have g:=Ws m rfl A;have j:=Ws m rfl z;refine QC ?_;rw[r];refine uK (Dj i (i:=0) rfl) tN L P (Jt<|O7 A) λT1 O y n=>?_;refine uK (Dj i (i:=1) rfl) tN O J (Jt (O7 ((n 7<|aj).trans z))) λX u B p=>?_;refine cH (Post:=qe F Sh a D gen ids bss w) (Dj i rfl) u U ?_ λx w' b T3 h Z H E=>?_
 have e:(#[Operand.tmp d1,Operand.tmp f]).map (Act.eval ⟨X,[]⟩)=#[l9 a,v]:=by simp only[fM,bD,dS];rw[O7 B,O7<|(p d1 q).trans y]
 rw[e];exact b6z m.W s g j hi S Y M t G
 obtain rfl:=h.v;let⟨gU,e,F',hm,V,R⟩:=h.disk;refine uK (Dj i rfl) tN Z dA (MR<|O7 H) λK s4 I C=>Qg ?_;exact d w' b K h s4 I iL (GV (tG (GV (GV m y n λ_=>g) B p λ_=>j) h.W R.jU.size h.old H E λ_=>.nilIface) I C λ_=>.nilIface)
end
section
variable[Go.ConcR.Payload][To.Lo]{Sh F:Nat->Prop}{w:World}{T:Array Value}{a:Nat}{D:Dk.D}{d:Dr}
theorem c5V(hI:Iv zone Sh (λk=>Eh k=true) ⟨T,[]⟩ w)(hT:T.size=108)(J:T[5]?=some (l9 a))(hgl:prog.globals.size<=w)(hD:o7 w F a D)(l:Zu d.renew D)(hn:d.bY.length<=60)(hL:Held w F Laid)(hl:Held w F S9):
 mX prog 8 (nJ 8) (bodyT prog Tryz.f8 λv w' _=>v=.bool true/\gI F w w') ⟨T,[]⟩ w Sh:=by
 rw[c95];refine aE (N:=VO F a D w) (R:=LH F w) (λn w' τ p⟨A,t,f,m,J,Y⟩=>⟨A,t,f,⟨m.os,m.output,m.size,m.block⟩,J.oV,Y⟩) (λn w' τ p⟨A,t,f⟩=>⟨A,t,f.os,f.output,f.size,f.block⟩) ?_ (λn w'⟨E,I,o⟩_=>⟨E,_,resultsC_tmp rfl n.tmps,I7 I,o⟩) 3 8 _ w (λi Z=>?_) (c8Y hT J hD l.safe.calm (⟨λx hx=>ay (l.bound x hx)<|dA,ay l.len<|dA,l.names⟩:D.Fit)) hI;rotate_left
 match i,Z with
 | 0,_=>exact Jm<|aZ
 | 1,_=>exact Jm<|aZ
 | 2,_=>exact Jm<|aZ
 rintro⟨T1,ds⟩ w1 ⟨b,s1,f5,yR,c,gen,H,G,v,fv,f7,f8,ho,hne,hv,hf⟩ hI1;dsimp only at b s1 f5 f7 f8;subst b;have r:=c7L hn l ho;obtain⟨hbl,hnd,hin,hsm⟩:=r.small c.wf;have y:=hl.jU yR hD.low;have Uk:=ay hgl yR.size;rw[c83];refine Q5<|LE 58 59 60 aW dA hI1 s1 f5 f7 Uk hv c r dA y hne λw2 ez T2 hP s2 g9 k2 hI2=>?_;obtain⟨gU,e,F2,⟨d1,hN,hW,az⟩,j,L⟩:=hP.disk;obtain⟨g,P⟩:=r.merged c.wf hin.1 hsm hN hW az;show mX _ _ _ _ _ _ _;rw[c84];refine aE (λn w' τ p⟨A,t,f,m,J,Y,h7,h8⟩=>⟨A,t,f,m,J,Y,⟨h7.os,h7.output,h7.size,h7.block⟩,h8.oV⟩) (λ_ _ _ _ h=>h) ?_ (λ_ _ h=>h.elim) 1 12 _ w2 (λi Z=>?_) (c8Z s2 ((k2 5 dA dA dA<|dA).trans f5) ((k2 7 dA dA dA<|dA).trans f7) ((k2 8 dA dA dA<|dA).trans f8) g9 j) hI2;rotate_left
 match i,Z with
 | 0,_=>exact Jm<|aZ
 rintro⟨T3,ds⟩ w3 ⟨b,s3,p5,p7,p8,U,K,M⟩ Q;dsimp only at b s3 p5 p7 p8 U;subst b;have V:=(L.held y c.low).jU K j.low;have Uj:=ay (ay Uk L.jU.size) K.size;have va:=Ws Q rfl p5;have vv:=Ws Q rfl p7;have vf:=Ws Q rfl p8;rw[c86];refine Q5<|QC ?_;rw[show List.range dm.size=[0,1,2,3,4] by kernel_rfl];refine uK (d:=66) (g:=none) (.of<|aW) tN s3 dA (Jt<|O7 p8) λT4 s4 g4 k4=>?_;refine uK (d:=67) (g:=none) (.of<|aW) tN s4 dA (Jt (O7 ((k4 7<|dA).trans p7))) λT5 s5 g5 k5=>?_;refine uK (d:=68) (g:=none) (.of<|aW) tN s5 dA (Jt (O7 ((k5 5<|dA).trans ((k4 5<|dA).trans p5)))) λT6 s6 g6 k6=>?_;refine cH (d:=69) (f:=40) (args:=#[.tmp 66,.tmp 67,.tmp 68]) (ats:=#[40,69,30]) (Post:=VK F2 ez a e w3) (.of<|aW) s6 dA ?_ λx w4 Sh4 T7 B s7 g7 k7=>?_
 have e1:(#[Operand.tmp 66,Operand.tmp 67,Operand.tmp 68]).map (Act.eval ⟨T6,[]⟩)=#[fv,v,l9 a]:=by simp only[fM,bD,dS];rw[O7 g6,O7 ((k6 67<|dA).trans g5),O7 ((k6 66<|dA).trans ((k5 66<|dA).trans g4))]
 rw[e1];exact b4U Q.W Uj va vf vv ((L.held hf c.low).jU K j.low) ((L.held hv c.low).jU K j.low) M r c.wf g dA rfl iL az.tidy ((L.held (hL.jU yR hD.low) c.low).jU K j.low) V
 obtain rfl:=B.v;refine uK (d:=12) (.of<|aW) tN s7 dA (MR<|O7 g7) λT8 s8 g8 k8=>Qg ?_;have C:∀k,k≠66->k≠67->k≠68->k≠69->k≠12->T8[k]?=T3[k]?:=λk E I o q4 q5=>(k8 k q5).trans iL;have R:=((Grew.nZ yR).trans L).trans ((Grew.nZ K).trans<|Grew.nZ B.jU);have O:(lX G H.length).length=(W9 gU).length:=by rw[<-hN.len];simp[W9]
 show mX _ _ _ _ _ _ _;rw[c88];refine aE (λn w' τ p⟨A,t,f,m,J,Y⟩=>⟨A,t,f,⟨m.os,m.output,m.size,m.block⟩,J.oV,Y⟩) (λn w' τ p⟨A,t,f⟩=>⟨A,t,f.os,f.output,f.size,f.block⟩) ?_ (λn w'⟨E,I,o⟩_=>⟨E,_,resultsC_tmp rfl n.tmps,I7 I,(R.trans<|Grew.nZ o).jU⟩) 3 14 _ w4 (λi Z=>?_) (c81 s8 ((C 5 dA dA dA dA<|dA).trans p5) ((C 10 dA dA dA dA<|dA).trans U) g8 B.disk g.safe.calm (g.fit<|dA) (by rw[g.op]) O) (GV (tG (GV (GV (GV Q g4 k4 λ_=>vf) g5 k5 λ_=>vv) g6 k6 λ_=>va) B.W B.jU.size B.old g7 k7 λ_=>.bool _) g8 k8 λ_=>.bool _);rotate_left
 match i,Z with
 | 0,_=>exact Jm<|aZ
 | 1,_=>exact Jm<|aZ
 | 2,_=>exact Jm<|aZ
 rintro⟨T9,ds⟩ w5 ⟨b,s9,r5,yQ,z,v2,u,r7,W,X,hv5,hu5⟩ YM;dsimp at b s9 r5 r7 W;subst b;rw[c89];refine Q5<|LE 87 88 89 rfl dA YM s9 r5 r7 (ay (ay Uj B.jU.size) yQ.size) hv5 z g dA ((V.jU B.jU M.low).jU yQ B.disk.low) X λw6 Sh6 TA hP6 sA gA kA hIA=>?_;let⟨qa3,e2,F3,⟨d2,UN,hW2,pE⟩,hD6,ap⟩:=hP6.disk;let⟨UD,qb6,N,lO⟩:=g.small z.wf;obtain⟨s,-⟩:=g.merged z.wf N.1 lO UN hW2 pE;rw[b6x (x_ G _) O] at s;show mX _ _ _ _ _ _ _;have S:=Jm (c:=nJ 18) aZ;apply piece _ hIA (Zn.nU.sound S.1) S.2 (λτ p=>c7N sA ((kA 5 dA dA dA dA).trans r5) gA ((kA 13 dA dA dA dA).trans W) (ap.held hu5 z.low).eU hD6.eU s.safe.calm (s.fit dA) (by rw[s.op]));intro e' n w' τ p τ' p' q;cases e'<;>first|exact q.elim|skip
 let⟨E,I,o⟩:=q;exact⟨.inr rfl,λ_ _=>⟨E,_,resultsC_tmp rfl _,I7 I,(R.trans ((Grew.nZ yQ).trans (ap.trans (Grew.nZ (⟨o.os,o.output,o.size,o.block⟩:gI F3 w6 w'))))).jU⟩⟩
end
end
section
open Zn (VP je Zf kH Zone Le)
def Core(a f g:Nat)(d:aX)(h:List Nat)(e:Nat->Value)(c:List Nat)(b:Nat):Prop:=
 b=a\/b=f\/b=g\/b∈h\/d.ownBlock=some b\/∃x∈c,b=x\/(e x).ownBlock=some b
section
variable{w:World}{F:Nat->Prop}{a m1 m2:Nat}{mv:Value}{gs:List Nat}{dv:Nat->Value}{d:D}
theorem dM.CB(h:dM w F a m1 m2 mv gs dv d)(c:Core a m1 m2 mv gs dv d.ids b):F b:=by
 obtain rfl|rfl|rfl|c|c|⟨x,e,rfl|c⟩:=c
 exact h.fa
 exact h.fm.1
 exact h.fm.2
 exact h.fg b c
 exact h.fo b c
 exact(h.fx _ e).1
 exact(h.fx x e).2 b c
theorem it{e:bT}{size:Nat}{v:aX}{xs:jl}(h:w.ownsRow B e size v n xs)(d:∀b,v.ownBlock=some b->Z.D b):VP Z v:=by
 obtain⟨rfl,_⟩|⟨g,c,a,rfl,_⟩:=h.2
 exact .jv _ _
 exact .slice _ _ _<|d g rfl
theorem c8h{o:Option Nat}(h:∀x,o=some x->Z.D x):VP Z (rG o):=by
 cases o with
 | none=>exact .kK
 | some x=>exact .ptr _<|h x rfl
theorem s_{l:List (Nm×Nat)}(h:Em w r l)(k:∀p∈l,Z.D p.2){o:Obj}(a:w.heap[r]?=some o):je Z o:=by obtain⟨n,c,f,j,-⟩:=h;rw[f] at a;injection a with a;subst a;refine .map _ _ λe i=>?_;obtain⟨p,m,b⟩:=aQ.1 (by rw[<-j];exact ig<|by simpa using i);injection b with b g;rw[<-b,<-g];exact⟨.string _,.ptr _<|k p m⟩
theorem dM.CG(h:dM w F a m1 m2 mv gs dv d)(y:∀b,Core a m1 m2 mv gs dv d.ids b->Z.D b)(j:Core a m1 m2 mv gs dv d.ids b){o:Obj}(c:w.heap[b]?=some o):je Z o:=by
 have A:∀x∈d.ids,Z.D x:=λx A=>y x (.inr fU);obtain rfl|rfl|rfl|j|j|⟨x,s,rfl|j⟩:=j
 have l:=h.box;unfold o6 at l;rw[l] at c;injection c with c;subst c;refine .cells _ _ _ λv r=>?_;simp at r;obtain rfl|rfl|rfl|rfl|rfl|rfl:=r
 exact .map _ (y _ (.inr<|.inl rfl))
 exact .map _ (y _ (.inr (.inr<|.inl rfl)))
 exact it h.outer λb j=>y b (.inr iL)
 exact .int _ _
 exact .int _ _
 exact .int _ _
 exact s_ h.now (λp B=>A _<|h.wf.now p B) c
 exact s_ h.safe (λp B=>A _<|h.wf.safe p B) c
 let⟨i,L⟩:=fP.1 j;have C:i<d.moves.length:=by have:=(aJ.1 L).1;rw[<-h.rows.1];exact this
 rw[h.rows.2 i b _ L (au C)] at c;injection c with c;subst c;refine .cells _ _ _ λv r=>?_;have t:v∈(d.moves[i]).flatMap lU:=iL
 let⟨m,N,t⟩:=qj.1 t;obtain rfl|rfl:=(by simpa [lU] using t)
 exact .string _
 exact c8h λf M=>A f<|h.wf.moves _ aZ m N f M
 obtain⟨e,_⟩|⟨g,G,u,e,_,z,_⟩:=h.outer.2
 rw[e] at j;cases j
 obtain rfl:g=b:=by rw[e] at j;simpa [Value.ownBlock] using j
 rw[z] at c;injection c with c;subst c;refine .cells _ _ _ λv r=>?_;obtain rfl|⟨q,n,D,rfl⟩:=h.nC g u _ _ kT z v r
 exact .jv _ _
 exact .slice _ _ _<|(λg H=>y g (.inr (.inr (.inr<|.inl H)))) q D
 rw[(h.file _ s).1] at c;injection c with c;subst c;refine .cells _ _ _ λv r=>?_;simp at r;obtain rfl|rfl:=r
 exact it (h.file _ s).2 λq D=>y q (.inr fU)
 exact .int _ _
 obtain⟨e,_⟩|⟨g,G,u,e,_,z,_⟩:=(h.file x s).2.2
 rw[e] at j;cases j
 obtain rfl:g=b:=by rw[e] at j;simpa [Value.ownBlock] using j
 rw[z] at c;injection c with c;subst c;refine .cells _ _ _ λv r=>?_;obtain⟨k,rfl⟩:=h.flat x s g u _ _ kT z v r;exact .int _ _
def Shun(a m1 m2:Nat)(mv:aX)(gs:List Nat)(dv:Nat->Value)(c:List Nat)(n b:Nat):Prop:=b<n/\7<b/\¬Core a m1 m2 mv gs dv c b
theorem dM.wps(h:dM w F a m1 m2 mv gs dv d)(e:∀b o,b<=7->w.heap[b]?=some o->je zone o)(p:7<w.heap.size):kH zone (Shun a m1 m2 mv gs dv d.ids w) w:=by
 refine⟨λb o g n m=>?_,λb g=>g.1,λb(g:b<=7)=>⟨aj,λi=>by have:=i.2.1;omega⟩⟩;obtain f|f:=bH 7 b
 exact h.CG (Z:=Zf _ _ _) (λq l=>⟨h.low q<|h.CB l,λi=>i.2.2 l⟩) (bW λk=>n ⟨g,f,k⟩) m
 exact(e b o f m).mono (⟨rfl,rfl,rfl,λb(g:b<=7)=>⟨aj,λi=>by have:=i.2.1;omega⟩⟩:Le zone (Zf _ _ _))
def dM.vp(h:dM w F a m1 m2 mv gs dv d):VP (Zf zone (Shun a m1 m2 mv gs dv d.ids w) w) (l9 a):=
 .ptr _ ⟨h.low a h.fa,λb=>b.2.2<|.inl rfl⟩
end
end
end Go.Proofs.YtgpbhjjajpbeeaaGreatDoor
namespace Go.Nm
open Go.Extern Go.Extern.Rtype
variable{P:Program}
theorem BE{zero:Sem Value}{f:TypeId->Addr->Nat->Nat->Sem Value}(hz:Mf P zero)(hf:∀t a fl k,Mf P (f t a fl k)){args:dU}:Mf P (ReflectliteValue.method zero f args):=by
 obtain⟨l⟩:=args;rcases l with _|⟨x,_|⟨y,l⟩⟩
 ·exact trivial
 ·refine l7 ZV λo=>?_
  cases o with
  | none=>exact hz
  | some o=>obtain⟨t,a,fl⟩:=o;exact hf _ _ _ _
 ·exact trivial
theorem b1L{zero:Sem Value}{f:TypeId->Addr->Nat->Nat->Sem Value}(hz:Mf P zero)(hf:∀t a fl k,Mf P (f t a fl k)){args:dU}:Mf P (ReflectliteValue.methodAny zero f args):=by
 obtain⟨l⟩:=args;rcases l with _|⟨x,_|⟨y,l⟩⟩
 ·exact trivial
 ·refine l7 NB λo=>?_
  cases o with
  | none=>exact hz
  | some o=>obtain⟨t,a,fl⟩:=o;exact hf _ _ _ _
 ·exact trivial
structure DB where
 F:FuncId->Bool
 N:String->Bool
def DB.yS(B:DB):m_:={F:=λf=>B.F f=true,N:=λn=>B.N n=true}
variable(B:DB)
def nz:Callee->Bool
 | .value (.func f)=>B.F f
 | .invoke _ n=>B.N n
 | .builtin b=>bN b
 | _=>false
def FU:Op->Bool
 | .call c=>nz B c.callee
 | .go _|.defer _|.send .. | .recv .. | .select .. | .makeChan .. | .ready _|.waits _|.mapEntry .. | .entryStore .. | .sliceToArrayPointer ..=>false
 | _=>true
def iF:Code->Bool
 | .seq a b=>iF a&&iF b
 | .cond _ a b=>iF a&&iF b
 | .block _ b=>iF b
 | .loop b=>iF b
 | .scope b=>iF b
 | .region _ ops _=>ops.toList.all λo=>FU B o.op
 | .rangeFunc ..=>false
 | _=>true
variable{B}
theorem FU.sound{o:Op}(h:FU B o=true):eC B.yS o:=by
 cases o<;>first|trivial|(cases h;done)|skip
 rename_i c;show tg B.yS c.callee;have h2:nz B c.callee=true:=h
 cases hc:c.callee with
 | value x=>
  rw[hc] at h2
  cases x<;>first|exact h2|cases h2
 | _=>rw[hc] at h2;exact h2
theorem iF.sound:∀{c:Code},iF B c=true->kM B.yS c:=by
 intro c
 induction c with
 | seq a b iha ihb=>intro h;simp only[iF,aI] at h;exact⟨iha h.1,ihb h.2⟩
 | cond x a b iha ihb=>intro h;simp only[iF,aI] at h;exact⟨iha h.1,ihb h.2⟩
 | block id b ih=>intro h;exact ih h
 | loop b ih=>intro h;exact ih h
 | scope b ih=>intro h;exact ih h
 | region id ops d=>intro h;exactλo ho=>FU.sound (aU.1 h o (by simpa using ho))
 | rangeFunc f p a b iha ihb=>intro h;cases h
 | _=>intro _;trivial
end Go.Nm
namespace Go.Proofs.YtgpbhjjajpbeeaaGreatDoor
open Go.RowKit Go.Nm Go.Extern
def UP:List Nat:=[12,13,15,16,17,20,31,32,37,46,47,48,49,50,51,52,53,65,66,67,68,69,75,76,77,80,88,89,90,91,92,93,97,119,120,121,122,123,124,125,148,162,163,164,165,180,181,182,183,184,185,186,187,188,189,190,208,209,210,211,212,213,222,247,248,253,255,259,261,262]
def db:DB:={F:=λf=>UP.contains f,N:=λn=>["Kind","Elem","Implements","As","Unwrap","AssignableTo"].contains n}
noncomputable def WQ(f:Nat):Bool:=match prog.funcs[f]? with
 | some fn=>(fn.name != "runtime.NumGoroutine")&&(match fn.body with|some c=>iF db c|none=>[97,119,120,121,162,163,247,248,255,259,261,262].contains f)
 | none=>true
def c8x:UP.all WQ=true:=aW
def c8y:prog.types.toList.all (λi=>i.methods.toList.all λm=>!db.N m.name||(match m.func with|some (f,_)=>db.F f|none=>true))=true:=aW
end Go.Proofs.YtgpbhjjajpbeeaaGreatDoor
namespace Go.Proofs.YtgpbhjjajpbeeaaGreatDoor
open Go.RowKit Go.Nm Go.Extern Go.Lib Go.ChangeShapes Go.WideShapes Go.ChangeAt Go.Joins Pl Go.Maps Dk Go.Conc Go.Mw
variable{W w:aB}
def b7w:prog.funcs.toList.all (λf=>match f.body with|some c=>(readies c).all λg=>decide (g<7)|none=>true)=true:=aW
theorem b7x(g:Nat)(hg:prog.globals.size<=g):prog.stepOf g=none:=by
 rw[globals_size] at hg;unfold Program.stepOf;rw[Array.findIdx?_eq_none_iff];intro f hf;have:=aU.1 b7w f (by simpa using hf)
 cases hb:f.body with
 | none=>rfl
 | some c=>
  rw[hb] at this;dsimp only at this;simp only[eP,Option.any_some]
  cases hc:(readies c).contains g with
  | false=>rfl
  | true=>exfalso;have h1:=aU.1 this g (by simpa using hc);have:=dJ h1;omega
def CP{fn:Func}{x:Array Value->Sem Value}(hn:Extern.findNext fn=none)(hf:Extern.find fn=some x)(hx:∀args,Mf prog (x args)):Extern.findNext fn=none/\∀e args,Extern.find fn=some e->Mf prog (e args):=
 ⟨hn,λe args h=>(aO (hf.symm.trans h))▸hx args⟩
theorem c0Y{fn:Func}(hn:Extern.findNext fn=none)(hf:Extern.find fn=none):Extern.findNext fn=none/\∀e args,Extern.find fn=some e->Mf prog (e args):=⟨hn,λe args h=>absurd h (by rw[hf];simp)⟩
theorem c9Q:∀f∈[97,119,120,121,162,163,247,248,255,259,261,262],∀fn,prog.funcs[f]?=some fn->Extern.findNext fn=none/\∀e args,Extern.find fn=some e->Mf prog (e args):=by
 intro f hf fn hfn;simp only[bI,jG,or_false] at hf;rcases hf with rfl|rfl|rfl|rfl|rfl|rfl|rfl|rfl|rfl|rfl|rfl|rfl
 ·obtain rfl:=aO (func97.symm.trans hfn);exact CP (x:=ReflectliteType.typeOf) aW aW λargs=>c1f
 ·obtain rfl:=aO (func119.symm.trans hfn);exact CP (x:=λargs=>ReflectliteValue.unpack (args.getD 0 (.tuple #[]))) aW aW λargs=>BB
 ·obtain rfl:=aO (func120.symm.trans hfn);exact CP (x:=ReflectliteValue.methodAny (ReflectliteValue.valueError "reflectlite.Value.Type" 0) λt _ _ _=>ReflectliteType.toType t) aW aW λargs=>b1L (XH _ _) λt _ _ _=>ze t
 ·obtain rfl:=aO (func121.symm.trans hfn);exact CP (x:=ReflectliteValue.method (ReflectliteValue.valueError "reflectlite.Value.IsNil" 0) ReflectliteValue.isNil) aW aW λargs=>BE (XH _ _) λt a fl k=>c1h t fl k
 ·obtain rfl:=aO (func162.symm.trans hfn);exact CP (x:=ReflectliteValue.method (ReflectliteValue.valueError "reflectlite.Value.Elem" 0) ReflectliteValue.elem) aW aW λargs=>BE (XH _ _) λt a fl k=>c4y t fl k
 ·obtain rfl:=aO (func163.symm.trans hfn);exact CP (x:=ReflectliteValue.set) aW aW λargs=>c8F
 ·obtain rfl:=aO (func247.symm.trans hfn);exact c0Y aW aW
 ·obtain rfl:=aO (func248.symm.trans hfn);exact CP (x:=ReflectliteType.abiMethod λt=>do pure (.int .u8 (<-Rtype.kind t))) aW aW λargs=>b4p (f:=λt=>do pure (.int .u8 (<-Rtype.kind t))) (λt=>l7 (ZH t) λ_=>o8 _) args
 ·obtain rfl:=aO (func255.symm.trans hfn);exact CP (x:=ReflectliteValue.method (pure (.int .u8 0)) λ_ _ _ k=>pure (.int .u8 (Int.ofNat k))) aW aW λargs=>BE (zero:=pure (.int .u8 0)) (f:=λ_ _ _ k=>pure (.int .u8 (Int.ofNat k))) (o8 _) λ_ _ _ _=>o8 _
 ·obtain rfl:=aO (func259.symm.trans hfn);exact CP (x:=ReflectliteType.relation "AssignableTo" ReflectliteType.assignableTo) aW aW λargs=>NE (λt u=>a9x t u) args
 ·obtain rfl:=aO (func261.symm.trans hfn);exact CP (x:=ReflectliteType.method ReflectliteType.elem) aW aW λargs=>c1g (λt=>c4x t) args
 ·obtain rfl:=aO (func262.symm.trans hfn);exact CP (x:=ReflectliteType.relation "Implements" ReflectliteType.implements_) aW aW λargs=>NE (λt u=>b0S t u) args
theorem c0Z:∀(t:Nat)(i:TypeInfo),prog.types[t]?=some i->Zn.pF zone i:=λt i hi z hzz=>by have h1:=aU.1 types i (by rw[<-eH] at hi;exact aH hi);unfold typeAt at h1;simp only[aI] at h1;rw[hzz] at h1;exact Zn.xA.sound _ _ h1.1
theorem pnc:Jz db.yS prog:=by
 have at_:∀f fn,db.yS.F f->prog.funcs[f]?=some fn->WQ f=true:=λf fn hf _=>aU.1 c8x f (by simpa [DB.yS,db] using hf);refine⟨⟨λt i hi m hm hN f p hf=>?_,λf fn hf hfn=>?_,λf fn hf hfn hb=>?_⟩,b7x,λf fn c hf hfn hb=>?_⟩
 ·rcases bH t prog.types.size with ht|ht
  ·have h1:=aU.1 c8y i (by have:=Zn.uz ht hi;rw[<-eH] at this;exact aH this);have h2:=aU.1 h1 m (by simpa using hm);rw[hf,show db.N m.name=true from hN] at h2;exact(by simpa using h2:db.F f=true)
  ·rw[(Zn.sK (Z:=zone) c0Z hi).2 ht] at hm;simp at hm
 ·have h1:=at_ f fn hf hfn;unfold WQ at h1;rw[hfn] at h1;simp only[aI] at h1;simpa using h1.1
 ·have h1:=at_ f fn hf hfn;unfold WQ at h1;rw[hfn] at h1;simp only[aI,hb] at h1;exact c9Q f (by simpa using h1.2) fn hfn
 ·have h1:=at_ f fn hf hfn;unfold WQ at h1;rw[hfn] at h1;simp only[aI,hb] at h1;exact iF.sound h1.2
def b4f:(List.range 7).all (λg=>(((begin prog (λ_ _=>0) default).world.heap[g]?).bind Obj.row?).isSome)=true:=aW
theorem b0K(h:W.ShapedOpen prog):∀g,g<prog.globals.size->lY W g:=by
 intro g hg;have hg':g<7:=by rw[globals_size] at hg;exact hg
 have h1:=aU.1 b4f g (iH.2 hg');obtain⟨⟨zero,t⟩,h2⟩:=XK.1 h1;obtain⟨cs,h3,-⟩:=h.1 g zero t hg h2;exact⟨cs,t,_,h3⟩
section
open Zn (VP je Zone)
noncomputable def intRow(t:TypeId):Bool:=prog.buildable t&&(match prog.cellTypes prog.depth t with
 | some ts=>ts.all λu=>match prog.underlying u with|some (.int _)=>true|_=>false
 | none=>false)
theorem intRow.cells{r:Reach}{t:bT}{cs:dU}(ht:intRow t=true)(h:prog.buildable t=true->Row.ok prog W r 0 t cs):∀v∈cs,∃k n,v=.int k n:=by
 unfold intRow at ht;simp only[aI] at ht;obtain⟨ts,h1,-,h2⟩:=h ht.1;rw[h1] at ht;intro v hv;obtain⟨i,hi⟩:=iQ.1 hv;obtain⟨u,hu,hc⟩:=h2 i v hi;have hk:=aU.1 ht.2 u (aH hu);unfold Cell.ok at hc
 cases e:prog.underlying u with
 | none=>rw[e] at hk;cases hk
 | some x=>
  rw[e] at hk hc;cases x<;>first|(cases hk;done)|skip
  cases v<;>first|exact hc.elim|exact⟨_,_,rfl⟩
noncomputable def rowAt(g:Nat):Option (Array Value×TypeId):=((begin prog (λ_ _=>0) default).world.heap[g]?).bind Obj.row?
noncomputable def V_(g:Nat):Bool:=match rowAt g with|some (_,t)=>intRow t|none=>false
def b31:((List.range 7).filter λg=>!V_ g)=[0]:=aW
def b1H:(rowAt 0).map (λx=>x.1.size)=some 1:=aW
noncomputable def zg:Bool:=match (begin prog (λ_ _=>0) default).world.heap[7]? with
 | some (Obj.cells c _ _)=>c.toList.all (Zn.xA zb 6)
 | _=>false
def b6X:zg=true:=aW
theorem b95(h:W.ShapedOpen prog)(hL:Laid W):∀b o,b<=7->W.heap[b]?=some o->je zone o:=by
 intro b o hb ho;rcases bH b 7 with hb7|hb7
 ·have hgl:b<prog.globals.size:=by rw[globals_size];exact hb7
  by_cases he:b=0
  ·subst he;have h1:=b1H;obtain⟨⟨zero,t⟩,h2,h3⟩:=bC.1 h1;obtain⟨cs,h4,h5,-⟩:=h.1 _ zero t hgl h2;rw[h4] at ho;injection ho with ho;subst ho;have h6:cs.size=1:=h5.trans h3;have h7:cs[0]?=some (.iface 275 (.agg #[.pointer (some ⟨7,34,none⟩)])):=by have:=hL;unfold Laid at this;simpa [World.cell?,h4] using this
   refine .cells _ _ _ λv hv=>?_;obtain⟨i,hi⟩:=iQ.1 hv;have hi0:i=0:=by have:=(bn.1 hi).1;omega
   subst hi0;rw[h7] at hi;injection hi with hi;subst hi;refine .iface _ _ rfl (.agg _ λx hx=>?_);obtain rfl:x=.pointer (some ⟨7,34,none⟩):=by simpa using hx
   exact .ptr _ (ak _)
  ·have hm:b∉((List.range 7).filter λg=>!V_ g):=by rw[b31];simpa using he
   have hi:V_ b=true:=by
    cases e:V_ b with
    | true=>rfl
    | false=>exact absurd (dQ.2 ⟨iH.2 hb7,by rw[e];rfl⟩) hm
   unfold V_ at hi
   cases hr:rowAt b with
   | none=>rw[hr] at hi;cases hi
   | some r=>obtain⟨zero,t⟩:=r;rw[hr] at hi;obtain⟨cs,h4,-,h5⟩:=h.1 b zero t hgl hr;rw[h4] at ho;injection ho with ho;subst ho;refine .cells _ _ _ λv hv=>?_;obtain⟨k,n,rfl⟩:=intRow.cells hi h5 v hv;exact .int _ _
 ·obtain rfl:b=7:=aj
  have hk:=b6X;unfold zg at hk
  cases e:(begin prog (λ_ _=>0) default).world.heap[7]? with
  | none=>rw[e] at hk;cases hk
  | some o0=>
   rw[e] at hk;have hlt:7<(begin prog (λ_ _=>0) default).world.heap.size:=by
    rcases bH 7 (begin prog (λ_ _=>0) default).world.heap.size with h|h
    ·exact h
    ·rw[h_ h] at e;cases e
   obtain⟨o1,o2,h1,h2,h3⟩:=h.2 7 (by rw[globals_size];exact ak _) hlt;rw[e] at h2;injection h2 with h2;subst h2;rw[globals_size,if_neg dA] at h3;rw[ho] at h1;injection h1 with h1;subst h1;rw[h3]
   cases o0 with
   | cells c t fr=>exact .cells _ _ _ λv hv=>Zn.xA.sound _ _ (aU.1 hk v (by simpa using hv))
   | _=>cases hk
end
structure Ee(W W':World):Prop where
 os:W'.os=W.os
 output:W'.output=W.output
 size:W.heap.size<=W'
 block:∀b,b<W.heap.size->W'.heap[b]?=W.heap[b]?
def Ee.JU{W':aB}(h:Ext W W'):Ee W W':=⟨h.os,h.output,h.size,λb a=>h.block b a⟩
def Ee.tp{W':aB}(h:Ee W W')(τ:Nat->Question->Nat)(p:Nat):Ee W (Zn.tp W' τ p):=⟨h.os,h.output,h.size,h.block⟩
namespace mM
variable{H:Type}{enc:TypeId×Value->H}{P:Program}
theorem uw{f:Func}{s:ChangeSpec}{c g d:Bool}{W':aB}{args:dU}{v:aX}{ds n:List (DataW H)}{a pa pv:List MemPlace}
 (q:DataW.Whole enc P f.params.toList s.vars c W args.toList ds n a)
 (m:∀(b:Nat)(j:Nat->Bool)(r:Bool),DataW.TrodAll enc P W' b j r f.resultTypes.toList (v.resultList f.resultTypes.size) (s.fn H (ds++n)).results [])
 (k:∀j:Nat->Bool,(∀p∈a,j p.block=true)->DataW.TrodAll enc P W' 0 j true f.params.toList args.toList (s.fn H (ds++n)).args pa)
 (l:∀j:Nat->Bool,(∀p∈a,j p.block=true)->DataW.TrodVars enc P W' j s.vars (s.fn H (ds++n)).vars pv)
 (o:Ee W W'):s.post enc P f c g d false W args v W':=by
 have e:∀p∈a,(λb=>decide _) _=true:=λp t=>by simpa using q.lt p t
 refine⟨ds,n,a,[],pa,pv,q,m _ _ _,k _ e,l _ e,⟨o.os,o.output,λi u=>?_⟩,λh=>by cases h⟩;rw[o.block i u];split<;>simp_all
theorem uo{w':aB}(d:Ee w w'){p:MemPlace}(h:p.block<w):w.sameAt w' p:=by
 have:=d.block _ h
 cases p with
 | cell=>exact World.cell?_of_block this
 | map=>trivial
end mM
theorem S9.held(h:S9 w):Held w (λ_=>False) S9:=by
 cases hg:Program.globalNamed prog "internal/strconv.uint64pow10" with
 | none=>unfold S9 Lib.TabIs World.var? at h;simp[hg] at h
 | some g=>
  have h':=h;unfold S9 Lib.TabIs World.var? at h';simp only[hg,fK] at h';have hlt:g<w.heap.size:=by
   rcases bH g w with h1|h1
   ·exact h1
   ·rw[h_ h1] at h';cases h'
  refine .of (S:=λb=>b=g) (λw' hw=>?_) λb e=>by subst e;exact⟨hlt,id⟩
  unfold S9 Lib.TabIs World.var?;simp only[hg,fK];rw[hw g rfl];exact h'
section
open Zn (tp kH VP Zf Le)
open Fs (So VX)
instance RH:Go.ConcR.Payload:=⟨3⟩
def ky(W:aB)(v:aX)(W':aB):Prop:=v=.bool true/\Ee W W'
theorem b9B(f:W.ShapedOpen prog):7<W.heap.size:=by
 obtain h|h:=bH 7 _
 exact h
 cases e:(begin prog (λ_ _=>0) default).world.heap[7]? with
 | none=>trivial
 | some=>obtain⟨i,j,d,-⟩:=f.2 7 qc fU;grind
def b9C:([gB 0,gB 1,gB 2,gB 3,gB 4,gB 5,gB 6,gB 7].all (Nm.iF db))=true:=rfl
theorem c9a(v:aX)(d:Dr)(W:aB)(h:GI W v d)(K:d.Fits 281474976710656)(B:W.ShapedOpen prog)(I:Laid W)(hP:S9 W):
 So prog (ky W) (G (Frame.enter prog 8 #[v] .normal) []) W:=by
 have n:Tryz.f8.body=some (nJ 0):=aW
 have z:Tryz.f8.ntmps=108:=aW
 have u:prog.inits.idxOf? 8=none:=aW
 rw[enter_at _ func8 n,z];refine So.list pnc rfl ?_ ?_ _ _ W (λc hc=>Nm.iF.sound<|aU.1 b9C c hc) (c7K v d W h K I) rfl<|b0K B;rotate_left
 rintro U y O ⟨H,C,f⟩;exact So.ended<|Fs.nG rfl H func8 u (resultsC_tmp rfl _) λτ p=>⟨I7 C,(Ee.JU f).tp τ p⟩
 rintro⟨T,ds⟩ w ⟨a,F,D,M,J,t,S,l,Y,f,A⟩ s hr;subst s;have X:=b9B B;let⟨Q,L,N,V,R,i⟩:=id S;have j:=aF X f.size;letI:To.Lo:=⟨w.heap.size⟩
 refine So.to (Sh:=Shun a Q L N V R D.ids w) (ak _)<|Fs.FN rfl rfl func8 u ?_;refine To.AX (c5V (by
  refine⟨λk hk=>?_,λd Z=>(by cases Z),i.wps (λb o x E=>b95 B I b o x (by rw[<-f.block b aj];exact E)) j⟩;by_cases P:k=5
  subst P;rw[I7 J];exact i.vp
  exact Fs.okV.sound<|t k hk P) M J (by rw[globals_size];omega) S l Y (Held.laid I f A)<|(S9.held hP).lift f A) λe U y Sh' q=>?_;have r:∀v,v=Value.bool _/\gI F w y->∀τ p,ky W v _:=λv⟨m,g⟩τ p=>
  ⟨m,(Ee.mk (g.os.trans f.os) (g.output.trans f.output) (ay f.size g.size) λb x=>(g.block b (aF x f.size) λK=>by have:=A b K;omega).trans<|f.block b x).tp τ p⟩
 cases e<;>first|exact q.elim|skip
 all_goals
  let⟨H,v,C,q3⟩:=q;exact⟨H,v,C,r v q3⟩
end
end Go.Proofs.YtgpbhjjajpbeeaaGreatDoor
namespace Go.Proofs.YtgpbhjjajpbeeaaGreatDoor.again
open Go.ChangeShapes Go.WideShapes Go.ChangeAt Go.RowKit Go.Joins Go.Lib Pl
def laidOut:laidOutB prog=true:=aW
def b6C:prog.readableRec 27=true:=aW
theorem run(H:Type)(enc:TypeId×Value->H)(W:aB)(base:Nat)(args:dU)(ds gs:List (DataW H))(before:List MemPlace)
 (hval:∀(j:Nat)t v,Tryz.f8.params[j]?=some t->args[j]?=some v->Value.okWide prog W .any base t v)
 (hW:DataW.Whole enc prog Tryz.f8.params.toList Rows.againSpec.vars false W args.toList ds gs before)(hL:laidMetH prog Rows.againRow.laid W)
 (hB:(DataW.weightsEach prog [27] ds).all (· ≤ reachBytes)=true)(hS:W.ShapedOpen prog):
 Fs.So prog (λv W'=>Rows.againSpec.post enc prog Tryz.f8 false true false false W args v W') (Go.Conc.G (Frame.enter prog 8 args .normal) []) W:=by
 have hW':=hW;obtain⟨p,q,hA0,hV,rfl,hfz,hnd⟩:=hW;have hA:DataW.TrodAll enc prog W 0 (λ_=>true) true Tryz.f8.params.toList args.toList ds p:=hA0;rw[params8] at hA hval;obtain⟨v0,vs0,d0,ds0,p0,q0,hargs,rfl,rfl,h0,r0⟩:=trodAll_cons hA;obtain⟨rfl,rfl,rfl⟩:=trodAll_nil r0;obtain rfl:args=#[v0]:=by cases args;simp_all
 obtain⟨rfl,rfl⟩:=trodVars_none hV;obtain⟨D,hD,hDw⟩:=Io.Vx (hval 0 27 v0 rfl rfl) h0;clear hA hA0 r0 hargs hval hfz hnd;have hfit:D.Fits 281474976710656:=by have hall:=aU.1 hB;have:=hDw reachBytes (λn hn=>dJ (hall n (DataW.weights_mem_each (j:=0) (t:=27) rfl rfl n hn)));unfold reachBytes at this;exact⟨λs hs=>by have:=this.tail s hs;omega,λs hs r hr=>by have:=this.recs s hs r hr;omega,λs hs=>by have:=this.other s hs;omega⟩
 simp only[dX] at hW';refine(c9a v0 D W hD hfit hS (mM.FW hL) (mM.Bl hL)).mono λv W'⟨he,hE⟩=>?_;subst he;refine mM.uw (pa:=p0) (pv:=[]) hW' (λ_ _ _=>trodAll_cons_mk (shut_bool underlying4 _) trodAll_mk0) (λsp hsp=>?_) (λ_ _=>rfl) hE;have hlt:=hW'.lt;have t0:DataW.Trod enc prog W' 0 sp true 27 v0 d0 p0:=Go.WideElems.Trod_stays laidOut b6C (dJ aW) h0 (λq hq=>mM.uo hE (hlt q (by simp[hq]))) (λq hq=>hsp q (by simp[hq]));have t3:=trodAll_cons_mk t0 trodAll_mk0;simp only[dX] at t3;rw[params8];exact t3
abbrev rK:Array Value:=#[.agg #[.slice none 0 0,.slice none 0 0,.int .u64 0,.slice none 0 0,.bool false,.bool false]]
def reads(os:Os){H:Type}(enc:TypeId×Value->H):∃places,DataW.whole enc prog ((mM.laidWorld os #[]).forCall (λ_ _=>0) ⟨#[],rK,[]⟩).memory Tryz.f8.params.toList Rows.againSpec.vars false rK.toList 8=some ([.agg [.nil,.nil,.lit (.int .u64 0),.nil,.lit (.bool false),.lit (.bool false)]],[],places):=
 ⟨[],aW⟩
theorem lifted(os:Os)(started:os.Started)(H:Type)(enc:TypeId×Value->H)(F:Stop.Interp):
 ReturnsInLeavingWide {} Tryz.checked os 8 .any ((OpenSpec.ofChange Rows.againSpec).preRow enc prog Tryz.f8 Rows.againRow.domain false Rows.againRow.laid) (((OpenSpec.ofChange Rows.againSpec).at F).post enc prog Tryz.f8 false true false false):=by
 obtain⟨places,hx⟩:=reads os enc;refine Fs.lT (C:=Tryz.checked) (s:=OpenSpec.ofChange Rows.againSpec) mM.own started func8
  (witness_row_at (enc:=enc) (C:=Tryz.checked) false (mM.laidWorld os #[]) rK rfl aW aW aW
    (OpenSpec.preRow_of_cond 8 hx aW (λk hk=>by cases hk) aW (mM.laidWorld_met os _))) ?_
 intro W base args ds gs before hval hW hcond h2 h3 hL h4 h5;have hgs:gs=[]/\ds=ds++gs:=by obtain⟨p,q,_,hV,_⟩:=hW;obtain⟨rfl,_⟩:=trodVars_none hV;exact⟨rfl,(dX _).symm⟩
 obtain⟨rfl,-⟩:=hgs;rw[dX] at h3;exact run H enc W base args ds [] before hval hW hL h3 h4
def j1:(Rows.againRow.inPlace==prog.inPlace 8)=true:=aW
def j2:(Rows.againRow.unfollowed==prog.unfollowed 8)=true:=aW
def j3:(Rows.againRow.recurses==prog.recurses 8)=true:=aW
def j4:(Rows.againRow.named==prog.varsNamed 8)=true:=aW
def j5:prog.mayEnter=true:=aW
def j6:laidOutB prog=true:=aW
def j7:mapsRowed prog=true:=aW
def j8:Rows.againRow.wf (OpenSpec.ofChange Rows.againSpec)=true:=aW
theorem closed:joinedFacts prog 8 Tryz.f8 Rows.againSpec Rows.againRow=true:=by
 unfold joinedFacts;simp only[aI];repeat' apply And.intro
 all_goals first|(with_reducible exact j1)|(with_reducible exact j2)|(with_reducible exact j3)|(with_reducible exact j4)|(with_reducible exact j5)|(with_reducible exact j6)|(with_reducible exact j7)|(with_reducible exact j8)|kernel_rfl
theorem proved:Rows.AgainSaid:=
 OpenClaim.holds_of_wide_leaving 8 Tryz.f8 rfl rfl rfl rfl rfl rfl rfl ⟨rfl,rfl,rfl,rfl,rfl⟩ rfl rfl rfl rfl rfl aW func8 closed
  (dJ aW) (by unfold Func.isWrapper;first|(rw[if_pos (by decide +kernel)];kernel_rfl)|(rw[if_neg (by decide +kernel)];exact⟨rfl,rfl⟩))
  (λos started H enc _=>by rw[OpenClaim.pre_eq_preRow];exact lifted os started H enc (λ_ _ _=>default))
theorem plain(f:FuncId)(fn:Func)(hf:Tryz.pinned.checked.prog.funcNamed "keydir/keydirlaw.Again" = some f)(hfn:Tryz.pinned.checked.prog.funcs[f]?=some fn):
 true=Tryz.pinned.checked.prog.looks []/\∀(j:Nat)t,fn.params[j]?=some t->Tryz.pinned.checked.prog.wantsStandIn t=false:=by
 obtain rfl:f=8:=aO ((show prog.funcNamed "keydir/keydirlaw.Again" = some 8 by kernel_rfl).symm.trans hf) |>.symm;obtain rfl:fn=Tryz.f8:=(aO (func8.symm.trans hfn)).symm;refine⟨aW,λj t ht=>?_⟩;rw[params8] at ht;obtain rfl:t=27:=by simpa using Array.mem_of_getElem? ht
 exact(show prog.wantsStandIn 27=false by kernel_rfl)
def card:Rows.AgainCardSaid:=
 mM.yU _ _ _ proved aW again_row_tie rfl ⟨rfl,rfl⟩ aW rfl plain aW
#print axioms card
end Go.Proofs.YtgpbhjjajpbeeaaGreatDoor.again
