/- A part of what the last file proves. -/
import Derived.Test.YtgpbhjjajpbeeaaGreatDoorO19
import Derived.Deep.DeepCutAuto
set_option linter.all false
set_option maxRecDepth 100000
set_option maxHeartbeats 3200000
open Go.Proofs.Tryz
namespace Go.Proofs.YtgpbhjjajpbeeaaGreatDoor
section
open Go.RowKit Go.Lib Go.Maps Dk Pl
open Go.Conc Go.Mw
open Zn (tp Full jh VP Zf Le)
open To (iZ jH L9 Iv GU To at_ Ej bodyT)
def Zr(W:World)(sb a:Nat)(gen:Nat)(ids:List Int)(bss:List (List UInt8)):Prop:=
 ∃(ia:Option Addr)(ic Cb r:Nat)(v:Int),o8 W sb 138 #[o7 a,.int .u64 gen,.slice ia ids.length ic,.slice (some ⟨Cb,0,none⟩) ids.length ids.length,.map (some r),.int .i64 v]/\Ints W (.slice ia ids.length ic) ids/\z_ W Cb ids.length ids bss/\sO W r (U7 bss ids.length)/\bss.length=ids.length
theorem z_.frame{w w':World}{Cb n:Nat}{ids:List Int}{bss:List (List UInt8)}(h:z_ w Cb n ids bss)(hC:w'.heap[Cb]?=w.heap[Cb]?)(hk:∀i u g,i<n->w.cell? ⟨Cb,2*i+1,none⟩=some u->u.ownBlock=some g->w'.heap[g]?=w.heap[g]?):z_ w' Cb n ids bss:=by
 intro i hi;obtain⟨h1,u,h2,h3⟩:=h i hi;exact⟨(World.cell?_of_block hC).trans h1,u,(World.cell?_of_block hC).trans h2,h3.keep λg hg=>hk i u g hi h2 hg⟩
theorem z_.ty{w:World}{Cb n:Nat}{ids:List Int}{bss:List (List UInt8)}(h:z_ w Cb n ids bss){i g:Nat}{u:Value}(hi:i<n)(hu:w.cell? ⟨Cb,2*i+1,none⟩=some u)(hg:u.ownBlock=some g):∃cur fr,w.heap[g]?=some (.cells cur 160 fr):=by
 obtain⟨-,u',h2,h3⟩:=h i hi;rw[hu] at h2;injection h2 with h2;subst h2;rcases h3.2 with⟨rfl,_⟩|⟨g',cap,cur,fr,rfl,h4,_⟩
 ·cases hg
 ·obtain rfl:g'=g:=by simpa [Value.ownBlock] using hg
  exact⟨_,_,h4⟩
structure Tm(F Sh:Nat->Prop)(a:Nat)(d:D)(w:World)(v:Value)(w':World)(Sh':Nat->Prop):Prop where
 W:jh zone Sh' w'
 up:∀b,Sh b->Sh' b
 old:∀b,b<w.heap.size->Sh' b->Sh b
 vp:VP (Zf zone Sh' w'.heap.size) v
 jr:iI F w w'
 disk:A7 w' F a d.gq.2.2
 res:(d.gq.1=none/\d.gq.2.1≠.ok/\∃y,v=.tuple #[.pointer none,y]/\Held w' F (λW=>ErrAt W y d.gq.2.1)) ∨
  (∃sb gen ids bss,d.gq.1=some (gen,ids,bss)/\d.gq.2.1=.ok/\Em ids/\v=.tuple #[.pointer (some ⟨sb,0,none⟩),.nilIface]/\Held w' F (λW=>Zr W sb a gen ids bss))
section
theorem b7S[To.Lo]{F Sh:Nat->Prop}{a:Nat}{d d2:D}{w w1:World}{T:Array Value}{gen:Nat}{ids:List Int}{bss:List (List UInt8)}{mb fb rb sx sb Cb:Nat}{ia:Option Addr}{ic:Nat}{vs:List Value}(h:Hd F a d w T w1 gen ids bss mb fb rb sx sb Cb ia ic vs d2)(hF:∀b,F b->b<w.heap.size)(hSh:∀b,Sh b->b<w.heap.size)
 {T':Array Value}{w2:World}{Sh':Nat->Prop}(hJ:Jn w1 Sh Cb ids.length ids bss T T' w2 Sh')(hI:Iv zone Sh' (λk=>fX k=true) ⟨T',[]⟩ w2):iZ prog 14 (I9 10) (bodyT prog Tryz.f14 (Tm F Sh a d w)) ⟨T',[]⟩ w2 Sh':=by
 obtain⟨n1,n2,n3,n4,n5,n6⟩:=h.new;have sJ:=h.hcb;have hmem:∀{c:Code},c∈X3->Zn.eX zone c:=LL;have BA:∀{c:Code},c∈[O5 10,O5 11,O5 12,I9 13]->Zn.gX (λk=>fX k=true) c:=c0t;have yu:w1.heap[sx]?=some (.cells #[.pointer (some ⟨sb,0,none⟩)] 32):=h.hsx;have tu:w1.heap[sb]?=some (.cells #[o7 a,.int .u64 gen,.slice ia ids.length ic,.slice (some ⟨Cb,0,none⟩) ids.length ids.length,.map none,.int .i64 0] 138):=h.hsb;have lr:=uT yu sJ (by decide);have Si:=uT tu sJ (by decide);have lP:=uT yu tu (by decide);have Nh:o8 w2 sx 32 #[.pointer (some ⟨sb,0,none⟩)]:=(hJ.old sx (Bi.lt_of_some yu) lr).trans yu;have BD:o8 w2 sb 138 #[o7 a,.int .u64 gen,.slice ia ids.length ic,.slice (some ⟨Cb,0,none⟩) ids.length ids.length,.map none,.int .i64 0]:=(hJ.old sb (Bi.lt_of_some tu) Si).trans tu;have hD2:A7 w2 F a d2:=h.disk.frame (λb hb=>hJ.old b (ak (hF b hb) h.jr.size) λe=>by have:=hF b hb;omega) hJ.size;have Jr:∀b,(Value.slice ia ids.length ic).ownBlock=some b->w.heap.size<=b/\b<w1.heap.size/\b≠Cb/\b≠sb:=λb hb=>by
  rcases h.jU.2 with⟨e,_⟩|⟨g,cap,cur,e,hg,hc,_⟩
  ·rw[e] at hb;cases hb
  ·rw[e] at hb;obtain rfl:g=b:=by simpa [Value.ownBlock] using hb
   exact⟨hg,Bi.lt_of_some hc,uT hc sJ (by decide),uT hc tu (by decide)⟩
 have NM:iQ w2 w.heap.size (.slice ia ids.length ic) ids:=iV.row h.jU w2 λb hb=>hJ.old b (Jr b hb).2.1 (Jr b hb).2.2.1;obtain⟨vc,hal⟩:=hJ.al;have g11:T'[11]?=some (.pointer (some ⟨sx,0,none⟩)):=hJ.t11.trans h.t11;have c2:iI F w w2:=⟨hJ.os.trans h.jr.os,hJ.output.trans h.jr.output,ay h.jr.size hJ.size,λb hb hn=>(hJ.old b (ak hb h.jr.size) (by omega)).trans (h.jr.block b hb hn)⟩;rw[b4R];refine L9 (piece (λw=>ci sx sb (o7 a) (.int .u64 gen) (.slice ia ids.length ic) (.slice (some ⟨Cb,0,none⟩) ids.length ids.length) (.map none) vc w1.heap.size w) hI (hmem (by simp[X3])) (BA (by simp)) (λτ p=>t10 T' hJ.hs g11 hJ.t12 _ _ _ _ _ _ vc 143 _ Nh BD hal) ?_);rintro e ⟨T3,ds3⟩ w3 τ p τ' p' q;cases e<;>first|exact q.elim|skip
 obtain⟨q1,q2,q3,q4,q5⟩:=q;dsimp only at q1 q2 q3;subst q1;have c3:iI (λb=>b=sb) w2 w3:=⟨q5.os,q5.output,dS q5.size.symm,λb _ hb=>q5.block b hb⟩;replace q4:o8 w3 sb 138 #[o7 a,.int .u64 gen,.slice ia ids.length ic,.slice (some ⟨Cb,0,none⟩) ids.length ids.length,.map none,.int .i64 vc]:=q4;clear q5;refine⟨.inl rfl,λyK _=>?_⟩;have Nc:=c3.box Nh lP;show iZ _ _ _ _ _ _ _;rw[b4S];refine L9 (piece (λw=>ce sx sb (o7 a) (.int .u64 gen) (.slice ia ids.length ic) (.slice (some ⟨Cb,0,none⟩) ids.length ids.length) vc w) yK (hmem (by simp[X3])) (BA (by simp)) (λτ p=>t11 T3 q2 q3 _ _ _ _ _ vc _ Nc q4) ?_);rintro e ⟨T4,t7⟩ w4 τ p τ' p' q;cases e<;>first|exact q.elim|skip
 obtain⟨r1,r2,r3,r4,r,r5,r6,r7⟩:=q;dsimp only at r1 r2 r3;subst r1;have c4:iI (λb=>b=sb) w3 w4:=.of r4;replace r5:w3.heap.size<=r:=r5;replace r6:o8 w4 sb 138 #[o7 a,.int .u64 gen,.slice ia ids.length ic,.slice (some ⟨Cb,0,none⟩) ids.length ids.length,.map (some r),.int .i64 vc]:=r6;replace r7:sO w4 r []:=r7;clear r4;refine⟨.inl rfl,λGq _=>?_⟩;have Nb:=c4.box Nc lP;have c24:iI (λb=>b=sb) w2 w4:=c3.trans c4;have Gt:Cb<w2.heap.size:=ak (Bi.lt_of_some sJ) hJ.size;have hS4:z_ w4 Cb ids.length ids bss:=hJ.dL.frame (c24.block Cb Gt (bP Si)) λi u g hi hu hg=>by
  obtain⟨cur,fr,hc⟩:=hJ.dL.ty hi hu hg;exact c24.block g (Bi.lt_of_some hc) (uT hc (show w2.heap[sb]?=some (.cells _ 138) from BD) (by decide))
 have s1:w1.heap.size<=r:=ay hJ.size (ay c3.size r5);have FD:r≠sx/\r≠sb:=by
  have:=Bi.lt_of_some yu;have:=Bi.lt_of_some tu;omega
 show iZ _ _ _ _ _ _ _;rw[b4T];refine L9 (piece (λw=>ca sx r bss ids.length w) Gq (hmem (by simp[X3])) (BA (by simp)) (λτ p=>t12 T4 r2 r3 _ _ _ _ ids bss _ Nb r6 ⟨aj _,by have:=h.uI.1;omega⟩ hS4 r7 FD) ?_);rintro e ⟨T5,qk⟩ w5 τ p τ' p' q;cases e<;>first|exact q.elim|skip
 obtain⟨u1,u2,u3,u4,u5⟩:=q;dsimp only at u1 u2 u3;subst u1;have c5:iI (λb=>b=r) w4 w5:=.of u4;replace u5:sO w5 r (U7 bss ids.length):=u5;clear u4;refine⟨.inl rfl,λBO _=>?_⟩;have Xp:=c5.box Nb (bP FD.1);have Xt:=c5.box r6 (bP FD.2);refine piece (λw=>b8 sb w) BO (hmem (by simp[X3])) (BA (by simp)) (λτ p=>t13 T5 u2 u3 _ Xp) ?_;rintro e a6 w6 τ p τ' p' q;cases e<;>first|exact q.elim|skip
 obtain⟨v1,v2,v3,v4⟩:=q;have c6:iI (λ_=>False) w5 w6:=.eq v4;refine⟨.inr rfl,λD_ _=>⟨v1,_,resultsC_tmp2 rfl a6.tmps,?_⟩⟩;rw[J3 v2,J3 v3];have z26:w2.heap.size<=w6.heap.size:=ay c24.size (ay c5.size c6.size);have z2r:w2.heap.size<=r:=ay c3.size r5;have k26:∀b,b<w2.heap.size->b≠sb->w6.heap[b]?=w2.heap[b]?:=λb hb hn=>
  (c6.block b (ak hb (ay c24.size c5.size)) λh=>h).trans ((c5.block b (ak hb c24.size) (by omega)).trans (c24.block b hb hn))
 have z12:=hJ.size;have kr:=h.jr.size;have Xr:=c6.box Xt λh=>h;have oS:sO w6 r (U7 bss ids.length):=u5.block (c6.block r (by obtain⟨es,c,h1,-⟩:=u5;exact Bi.lt_of_some h1) λh=>h);have NK:iQ w6 w.heap.size (.slice ia ids.length ic) ids:=iV.row NM w6 λb hb=>k26 b (by have:=Jr b hb;omega) (Jr b hb).2.2.2;have cellC:∀k,w6.cell? ⟨Cb,k,none⟩=w2.cell? ⟨Cb,k,none⟩:=λk=>World.cell?_of_block (k26 Cb Gt (bP Si));have gk:∀i u g,i<ids.length->w2.cell? ⟨Cb,2*i+1,none⟩=some u->u.ownBlock=some g->w.heap.size<=g/\g<w2.heap.size/\g≠sb:=λi u g hi hu hg=>by
  obtain⟨cur,fr,hc⟩:=hJ.dL.ty hi hu hg;exact⟨ay kr (hJ.Bl i u g hi hu hg),Bi.lt_of_some hc,uT hc (show w2.heap[sb]?=some (.cells _ 138) from BD) (by decide)⟩
 have hS6:z_ w6 Cb ids.length ids bss:=hJ.dL.frame (k26 Cb Gt (bP Si)) λi u g hi hu hg=>k26 g (gk i u g hi hu hg).2.1 (gk i u g hi hu hg).2.2;have Xq:sb<w1.heap.size:=Bi.lt_of_some tu;have hrl:r<w6.heap.size:=by obtain⟨es,c,h1,-⟩:=oS;exact Bi.lt_of_some h1
 exact{
  W:=D_.W
  up:=hJ.Wy
  old:=λb hb hs=>hJ.xQ b (ak hb kr) hs
  vp:=by
   refine .tuple _ λx hx=>?_;rcases(by simpa using hx:x=.pointer (some ⟨sb,0,none⟩)\/x=.nilIface) with rfl|rfl
   ·exact .ptr _ ⟨by show sb<_;omega,λhs=>by have:=hSh sb (hJ.xQ sb Xq hs);omega⟩
   ·exact .nilIface
  jr:=by
   refine⟨c6.os.trans (c5.os.trans (c24.os.trans c2.os)),c6.output.trans (c5.output.trans (c24.output.trans c2.output)),by omega,λb hb hn=>(k26 b (by omega) (by omega)).trans (c2.block b hb hn)⟩
  disk:=by rw[h.ko];exact hD2.frame (λb hb=>k26 b (by have:=hF b hb;omega) (by have:=hF b hb;omega)) z26
  res:=by
   refine .inr ⟨sb,gen,ids,bss,by rw[h.ko],by rw[h.ko],h.uI,rfl,λb=>w.heap.size<=b/\b<w6.heap.size,λb hb=>⟨hb.2,λhf=>by have:=hF b hf;omega⟩,λw'' hw=>?_⟩;have hkb:∀b,w.heap.size<=b->b<w6.heap.size->w''.heap[b]?=w6.heap[b]?:=λb h1 h2=>hw b ⟨h1,h2⟩;refine⟨ia,ic,Cb,r,vc,(hkb sb n5 (by omega)).trans Xr,iQ.ints (B:=w.heap.size) (iV.row NK w'' λb hb=>hkb b (Jr b hb).1 (by have:=Jr b hb;omega)),?_,oS.block (hkb r (by omega) hrl),h.FY⟩;exact hS6.frame (hkb Cb n6 (by omega)) λi u g hi hu hg=>by
    rw[cellC] at hu;have:=gk i u g hi hu hg;exact hkb g this.1 (by omega)}
theorem b7T[Go.ConcR.Payload][To.Lo]{F Sh:Nat->Prop}{a:Nat}{d:D}{w:World}(W:jh zone Sh w)(hgl:prog.globals.size<=w.heap.size)(hv:VP (Zf zone Sh w.heap.size) (o7 a))(hD:A7 w F a d)(hds:∀x∈d.ids,(d.node x).data.length<=1099511627776)(hl:Held w F nZ):
 Ej prog 14 #[o7 a] w Sh (Tm F Sh a d w):=by
 refine⟨Tryz.f14,I9 0,func14,by kernel_rfl,by kernel_rfl,?_⟩;have en:Tryz.f14.ntmps=118:=by kernel_rfl
 rw[en];have eT:(#[o7 a]:Array Value).size=1:=rfl;rw[eT];have hI:Iv zone Sh Full ⟨#[o7 a]++Array.replicate (118 - 1) undef,[]⟩ w:=by
  refine⟨λt _=>?_,λd hd=>(by cases hd),W⟩;show VP _ ((#[o7 a]++Array.replicate (118 - 1) undef).getD t undef);rw[aA,j_];split
  ·rename_i h;obtain rfl:t=0:=by simpa using h
   exact hv
  ·rw[mZ];split
   ·exact Zn.iy
   ·exact Zn.iy
 refine b7O (F:=F) (d:=d) hI (by simp) (by simp) hD (λx hx=>ay (hds x hx) (by decide)) hl ?_ ?_
 ·intro a' w' y hE hI';refine⟨hE.defers,_,resultsC_tmp2 rfl a'.tmps,?_⟩;rw[J3 hE.t2,J3 hE.t3];have hy:=hI'.tmps 3 trivial;rw[J3 hE.t3] at hy;exact⟨hI'.W,λ_ h=>h,λ_ _ h=>h,.tuple _ λx hx=>by
   rcases(by simpa using hx:x=.pointer none\/x=y) with rfl|rfl
   ·exact .jc
   ·exact hy,hE.jr,hE.disk,.inl ⟨hE.ko.1,hE.ko.2,y,rfl,hE.err⟩⟩
 ·intro T w' gen ids bss mb fb rb sx sb Cb ia ic vs d2 h hI';have hlen:∀l∈bss,l.length<=1099511627776:=by
   have hk:=h.ko;have hm:=D.lW d
   cases hr:d.aV.1 with
   | none=>rw[KG hr] at hk;cases hk
   | some r=>
    obtain⟨g,l⟩:=r;have hwf:d.aV.2.2.Wf:=by
     have hw:=hD.wf;exact⟨by rw[hm.now,hm.ids];exact hw.now,by rw[hm.safe,hm.ids];exact hw.safe,by rw[hm.moves,hm.ids];exact hw.moves,by rw[hm.node,hm.ids];exact hw.part,by rw[hm.ids];exact hw.ids⟩
    cases he:(D.bZ l d.aV.2.2 []).2.1 with
    | ok=>
     rw[ZI hr he] at hk;injection hk with h1 h2;injection h1 with h1;injection h1 with h1 h3;injection h3 with h3 h4;rw[<-h4]
     exact b7Q l hwf (by rw[hm.ids,hm.node];exact hds) λl hl=>by cases hl
    | num n=>rw[KA hr (by rw[he];exactλh=>by cases h)] at hk;cases hk
    | file n m=>rw[KA hr (by rw[he];exactλh=>by cases h)] at hk;cases hk
  obtain⟨g,c2,hp⟩:=h.ph hI'.W W.sh hgl hlen;exact b7R hp hI' h.hs h.t4 h.t6 h.t11 λT' w2 Sh' hJ hI2=>b7S h hD.low W.sh hJ hI2
end
end
section
open Go.RowKit Go.Lib Go.Maps Dk Pl
open Go.Conc Go.Mw
open Zn (tp Full jh VP Zf Le)
open To
def Code.fst:Code->Code|.seq a _=>a|c=>c
def Code.snd:Code->Code|.seq _ b=>b|c=>c
def Code.inn:Code->Code|.block _ c=>c|.loop c=>c|c=>c
def Code.ops:Code->Array Oper|.region _ ops _=>ops|_=>#[]
def Code.thn:Code->Code|.cond _ x _=>x|c=>c
section
variable{ρ:Operand->Value}{x y:Operand}
theorem c0g{a b:Int}(hx:ρ x=.int .i64 a)(hy:ρ y=.int .i64 b):Runs prog ρ (.binOp .lss 3 x y 3) (.bool (decide (a<b))):=λo ho w=>by
 constructor<;>simp[go_sem,execOp,ho,hx,hy]
theorem c0h{a b:Int}(hx:ρ x=.int .i64 a)(hy:ρ y=.int .i64 b):Runs prog ρ (.binOp .eql 3 x y 3) (.bool (decide (a=b))):=λo ho w=>by
 constructor<;>simp[go_sem,execOp,ho,hx,hy]<;>rfl
theorem c0i{i:Nat}(hi:i<=1000000)(hx:ρ x=.int .i64 i)(hy:ρ y=.int .i64 1):Runs prog ρ (.binOp .add 3 x y 3) (.int .i64 (i+1:Nat)):=λo ho w=>by
 have hw:IntKind.i64.wrap ((i:Int)+1)=(i:Int)+1:=by rw[IntKind.wrap_i64];omega
 constructor<;>simp[go_sem,execOp,ho,hx,hy,hw]
theorem AE{i:Nat}{c:Array Value}{v V:Value}(h:ρ x=V)(hV:V=.tuple c)(hc:c[i]?=some v):Runs prog ρ (.extract x i) v:=λo ho w=>by
 subst hV;constructor<;>simp[go_sem,execOp,ho,h,hc]
end
section
variable{w:World}{F:Nat->Prop}{a:Nat}{D:Dk.D}
theorem Held.fZ{τ:Nat->Question->Nat}{p:Nat}{Φ:World->Prop}(h:Held w F Φ):Held (tp w τ p) F Φ:=let ⟨S,h1,h2⟩:=h;⟨S,h1,h2⟩
theorem A7.tV{w':World}(h:A7 w F a D)(c:iI (λ_=>False) w w'):A7 w' F a D:=h.frame (λb hb=>c.block b (h.low b hb) λh=>h) c.size
theorem iI.any{w':World}(c:iI (λ_=>False) w w'):iI F w w':=c.less λ_ _ h=>h.elim
end
end
section
open Go.RowKit Go.Lib Go.Maps Dk Pl
open Go.Conc Go.Mw
open Zn (tp Full jh VP Zf Le)
open To
set_option linter.unusedSectionVars false
def AN(n:Nat)(x:Nat->Value):Array Value:=((List.range n).map x).toArray
theorem GL(n:Nat)(T:Array Value)(hT:T.size=n):∃x,T=AN n x/\∀k v,T[k]?=some v->x k=v:=by
 refine⟨_,Zz (A:=AN n) (λ_=>rfl) T hT,λk v hk=>?_⟩;rw[aA,hk];rfl
theorem b93{n:Nat}{T:Array Value}{x:Nat->Value}(hT:T.size=n)(hx:∀k v,T[k]?=some v->x k=v){k:Nat}(hk:k<n):T[k]?=some (x k):=by
 have h:T[k]?=some T[k]:=bK (by omega);rw[h,hx k _ h]
theorem OK(n:Nat)(v u:Value):#[v,u]++Array.replicate n undef=AN (2+n) (λk=>if k=0 then v else if k=1 then u else undef):=by
 rw[Zz (A:=AN (2+n)) (λ_=>rfl) (#[v,u]++Array.replicate n undef) (by simp)];congr 1
 funext k
 rw[aA]
 match k with
 | 0=>rw[jq (by simp)];rfl
 | 1=>rw[jq (by simp)];rfl
 | k+2=>
  rw[Array.getElem?_append_right (by simp),mZ,if_neg (show ¬k+2=0 by omega),if_neg (show ¬k+2=1 by omega)];split<;>rfl
def mL(s d0 d1 d2 d3 d4 x y:Nat):List (Option Nat×Op×Option (Nat×Bool)):=
 [(some d0,.move (.tmp s),none),(some d1,.call {callee:=.value (.func 14),args:=#[.tmp d0],argTypes:=#[30]},none),(some d2,.move (.tmp d1),none),(some d3,.extract (.tmp d2) 0,none),(some d4,.extract (.tmp d2) 1,none),(some x,.assign (.tmp d3),none),(some y,.assign (.tmp d4),none)]
theorem Hg{ops:Array Oper}{l:List (Option Nat×Op×Option (Nat×Bool))}(h:ops.toList.map (λo=>(o.dst,o.op,o.guard))=l){i d:Nat}{op:Op}{g:Option (Nat×Bool)}(hi:l[i]?=some (some d,op,g)):uO ops i d op g:=by
 subst h;refine .of ?_;rw[<-hi];simp
section
variable[Go.ConcR.Payload][To.Lo]{Sh F:Nat->Prop}{w:World}{T:Array Value}{Q:Exit->Act->World->(Nat->Prop)->Prop}{a:Nat}{D:Dk.D}{fn:FuncId}{ops:Array Oper}{X:Tmp->Prop}
theorem RE(n s d0 d1 d2 d3 d4 x y:Nat){id:Nat}(ho:ops.toList.map (λo=>(o.dst,o.op,o.guard))=mL s d0 d1 d2 d3 d4 x y)(hn:([d0,d1,d2,d3,d4,x,y].all (· < n)&&decide (d2≠d3/\d3≠d4/\d4≠x/\x≠y))=true)
 (hI:Iv zone Sh X ⟨T,[]⟩ w)(hT:T.size=n)(h6:T[s]?=some (o7 a))(hv:VP (Zf zone Sh w.heap.size) (o7 a))(hgl:prog.globals.size<=w.heap.size)(hD:A7 w F a D)(hds:∀x∈D.ids,(D.node x).data.length<=1099511627776)(hl:Held w F nZ)
 (hnext:∀u v w' Sh' T',Tm F Sh a D w (.tuple #[u,v]) w' Sh'->T'.size=n->T'[x]?=some u->T'[y]?=some v->(∀k,k∉[d0,d1,d2,d3,d4,x,y]->T'[k]?=T[k]?)->Iv zone Sh' X ⟨T',[]⟩ w'->Q .normal ⟨T',[]⟩ w' Sh'):iZ prog fn (.region id ops false) Q ⟨T,[]⟩ w Sh:=by
 have hsz:ops.size=7:=by
  have:=congrArg List.length ho;simpa [mL] using this
 simp only[List.all_cons,List.all_nil,aH,dQ,RV] at hn;obtain⟨⟨l0,l1,l2,l3,l4,l5,l6⟩,e23,e34,tz,exy⟩:=hn;refine C_ ?_;rw[hsz,show List.range 7=[0,1,2,3,4,5,6] from rfl];refine CY (Hg ho (i:=0) rfl) lC hT l0 (W9 (G7 h6)) λT1 s1 g1 k1=>?_;refine cT (Post:=Tm F Sh a D w) (Hg ho (i:=1) rfl) s1 l1 ?_ λv w' Sh' T2 hP s2 g2 k2=>?_
 ·have e:(#[Operand.tmp d0]).map (Act.eval ⟨T1,[]⟩)=#[o7 a]:=by
   simp only[eH,aB,dJ];rw[G7 g1]
  rw[e];exact b7T hI.W hgl hv hD hds hl
 obtain⟨u,v,rfl⟩:∃x y,v=.tuple #[x,y]:=by
  rcases hP.res with⟨_,_,y,h,_⟩|⟨sb,gen,ids,bss,_,_,_,h,_⟩
  ·exact⟨_,_,h⟩
  ·exact⟨_,_,h⟩
 have hxy:VP (Zf zone Sh' w'.heap.size) u/\VP (Zf zone Sh' w'.heap.size) v:=by
  have:=hP.vp
  cases this with
  | tuple c h=>exact⟨h u (by simp),h v (by simp)⟩
 refine CY (Hg ho (i:=2) rfl) lC s2 l2 (W9 (G7 g2)) λT3 s3 g3 k3=>?_;refine CY (Hg ho (i:=3) rfl) lC s3 l3 (AE (G7 g3) rfl rfl) λT4 s4 g4 k4=>?_;refine CY (Hg ho (i:=4) rfl) lC s4 l4 (AE (G7 ((k4 d2 e23).trans g3)) rfl rfl) λT5 s5 g5 k5=>?_;refine CY (Hg ho (i:=5) rfl) lC s5 l5 (EJ (G7 ((k5 d3 e34).trans g4))) λT6 s6 g6 k6=>?_;refine CY (Hg ho (i:=6) rfl) lC s6 l6 (EJ (G7 ((k6 d4 tz).trans g5))) λT7 s7 g7 k7=>?_;have hle:Le (Zf zone Sh w.heap.size) (Zf zone Sh' w'.heap.size):=⟨rfl,rfl,rfl,λb h=>⟨ak h.1 hP.jr.size,λhs=>h.2 (hP.old b h.1 hs)⟩⟩;refine Ae (hnext u v w' Sh' T7 hP s7 ((k7 x exy).trans g6) g7 (λk hk=>?_) ⟨λt ht=>?_,λd hd=>(by cases hd),hP.W⟩)
 ·simp only[aY,not_or] at hk;obtain⟨q0,q1,q2,q3,q4,q5,q6,-⟩:=hk;exact(k7 k q6).trans ((k6 k q5).trans ((k5 k q4).trans ((k4 k q3).trans ((k3 k q2).trans ((k2 k q1).trans (k1 k q0))))))
 ·show VP _ (T7.getD t undef);have hv':=hv.mono hle;have key:∀{A B:Array Value}{d:Nat}{z:Value},B[d]?=some z->(∀k,k≠d->B[k]?=A[k]?)->VP (Zf zone Sh' w'.heap.size) z->VP (Zf zone Sh' w'.heap.size) (A.getD t undef)->VP (Zf zone Sh' w'.heap.size) (B.getD t undef):=λ{A B d z}h1 h2 hz hA=>by
   rw[aA] at hA⊢;by_cases e:t=d
   ·subst e;rw[h1];exact hz
   ·rw[h2 t e];exact hA
  exact key g7 k7 hxy.2 (key g6 k6 hxy.1 (key g5 k5 hxy.2 (key g4 k4 hxy.1 (key g3 k3 hP.vp (key g2 k2 hP.vp (key g1 k1 hv' ((hI.tmps t ht).mono hle)))))))
end
section
variable[To.Lo]{Sh F:Nat->Prop}{w:World}{T:Array Value}{Q:Exit->Act->World->(Nat->Prop)->Prop}{fn:FuncId}{ops:Array Oper}{X:Nat->Bool}{n i d:Nat}{rest:List Nat}{v:Value}{op:Op}{g:Option (Nat×Bool)}
theorem Zk{T':Array Value}(hI:Iv zone Sh (λk=>X k=true) ⟨T,[]⟩ w)(h1:T'[d]?=some v)(h2:∀k,k≠d->T'[k]?=T[k]?)(hv:X d=true->VP (Zf zone Sh w.heap.size) v):Iv zone Sh (λk=>X k=true) ⟨T',[]⟩ w:=hI.keep λk hk=>by
 by_cases e:k=d
 ·subst e;exact .inr ⟨_,h1,hv hk⟩
 ·exact .inl (h2 k e)
theorem VV{Sh':Nat->Prop}{w':World}{T':Array Value}(hI:Iv zone Sh (λk=>X k=true) ⟨T,[]⟩ w)(hW:jh zone Sh' w')(hs:w.heap.size<=w'.heap.size)(hS:∀b,b<w.heap.size->Sh' b->Sh b)(h1:T'[d]?=some v)(h2:∀k,k≠d->T'[k]?=T[k]?)(hv:X d=true->VP (Zf zone Sh' w'.heap.size) v):Iv zone Sh' (λk=>X k=true) ⟨T',[]⟩ w':=by
 have hle:Le (Zf zone Sh w.heap.size) (Zf zone Sh' w'.heap.size):=⟨rfl,rfl,rfl,λb h=>⟨ak h.1 hs,λhq=>h.2 (hS b h.1 hq)⟩⟩;refine⟨λt ht=>?_,λd hd=>(by cases hd),hW⟩;show VP _ (T'.getD t undef);rw[aA];by_cases e:t=d
 ·subst e;rw[h1];exact hv ht
 ·rw[h2 t e,<-aA];exact(hI.tmps t ht).mono hle
theorem nY(h:uO ops i d op g)(hw:Wn ops T g true)(hs:T.size=n)(hdn:d<n)(hr:Runs prog (Act.eval ⟨T,[]⟩) op v)(hI:Iv zone Sh (λk=>X k=true) ⟨T,[]⟩ w)(hv:X d=true->VP (Zf zone Sh w.heap.size) v)
 (k:∀T',T'.size=n->T'[d]?=some v->(∀k,k≠d->T'[k]?=T[k]?)->Iv zone Sh (λk=>X k=true) ⟨T',[]⟩ w->mX prog fn ops rest Q ⟨T',[]⟩ w Sh):mX prog fn ops (i::rest) Q ⟨T,[]⟩ w Sh:=
 CY h hw hs hdn hr λT' a b c=>k T' a b c (Zk hI b c hv)
theorem C4(h:uO ops i d op g)(hw:Wn ops T g false)(hs:T.size=n)(hdn:d<n)(hI:Iv zone Sh (λk=>X k=true) ⟨T,[]⟩ w)
 (k:∀T',T'.size=n->T'[d]?=some undef->(∀k,k≠d->T'[k]?=T[k]?)->Iv zone Sh (λk=>X k=true) ⟨T',[]⟩ w->mX prog fn ops rest Q ⟨T',[]⟩ w Sh):mX prog fn ops (i::rest) Q ⟨T,[]⟩ w Sh:=
 c2j h hw hs hdn λT' a b c=>k T' a b c (Zk hI b c λ_=>Zn.iy)
end
section
variable{ρ:Operand->Value}{x y:Operand}
theorem b7w{a:Option Addr}{m c:Nat}(h:ρ x=.slice a m c):Runs prog ρ (.call {callee:=.builtin .len,args:=#[x],argTypes:=#[73]}) (.int .i64 m):=λo ho w=>by
 constructor<;>simp[go_sem,execOp,ho,h]
theorem b94{b:Bool}(h:ρ x=.bool b):Runs prog ρ (.unOp .not 4 x) (.bool (!b)):=λo ho w=>by
 constructor<;>simp[go_sem,execOp,ho,h]
theorem b95{a:Addr}{n c i:Nat}(hi:i<n)(hx:ρ x=.slice (some a) n c)(hy:ρ y=.int .i64 i):Runs prog ρ (.indexAddr 73 x y) (.pointer (some (a.add i))):=λo ho w=>by
 have h1:(i:Int)<(n:Int):=by omega
 constructor<;>simp[go_sem,execOp,ho,hx,hy,hi,h1]
theorem b96{ad:Addr}{v:Value}(hx:ρ x=.pointer (some ad))(o:Oper)(ho:o.op=.load 9 x)(w:World)(hc:w.cell? ad=some v):(execOp ρ o).run prog w=.ok (.value v) w/\(execOp ρ o).events prog w #[]=#[⟨.cell ad,false,false⟩]:=by
 constructor<;>simp[go_sem,execOp,ho,hx,hc]
end
end
section
open Go.RowKit Go.Lib Go.Maps Dk
namespace Dk
structure D.Built(d:D)(k:Nat):Prop where
 calm:d.Calm
 nodup:(d.now.map (·.1)).Nodup
 safe:d.safe=[]
 same:ED (d.moves.foldl D6 []) d.now
 synced:∀x∈d.ids,(d.node x).safe=(d.node x).data.length
 bound:∀x∈d.ids,(d.node x).data.length<=1099511627776
 room:d.room=1099511627776
 named:∀p∈d.now,p.2∈d.ids
 names:∀p∈d.now,p.1.length<=1000000
 len:d.now.length<=k
 vT:d.moves.length<=k
 pJ:∀l∈d.moves,l.length<=1000000/\∀m∈l,m.1.length<=1000000
theorem b9V{α β:Type}[DecidableEq α](l:List (α×β))(x:α)(y:β):(kU l x y).length<=l.length+1:=by
 unfold kU;split<;>simp
theorem D.Built.empty:(⟨[],[],[],1099511627776,0,0,[],λ_=>⟨[],0⟩⟩:D).Built 0:=
 ⟨⟨rfl,rfl⟩,by simp,rfl,λ_=>rfl,by simp,by simp,rfl,by simp,by simp,by simp,by simp,by simp⟩
theorem D.Built.more{d:D}{k m:Nat}(h:d.Built k)(hk:k<=m):d.Built m:=
 {h with len:=ay h.len hk,vT:=ay h.vT hk}
theorem D.Built.create{d:D}{k:Nat}(h:d.Built k){n:Nm}{x:Nat}(hx:x∉d.ids)(hn:n.length<=1000000):(d.create n x).2.Built (k+1):=by
 have e1:d.fails=(false,d):=h.calm.fails;unfold D.create;rw[e1];dsimp only;rw[if_neg (by simp)];by_cases hs:(D7 d.now n).isSome=true
 ·rw[if_pos hs];exact h.more (qy k)
 ·rw[if_neg hs];have hu:∀y∈d.ids,upd d.node x ⟨[],0⟩ y=d.node y:=λy hy=>by
   unfold upd;rw[if_neg (show ¬y=x from λe=>hx (e▸hy))]
  have nh:upd d.node x ⟨[],0⟩ x=⟨[],0⟩:=by unfold upd;rw[if_pos rfl]
  refine⟨h.calm,Vx _ h.nodup,h.safe,?_,?_,?_,h.room,?_,?_,?_,?_,?_⟩
  ·show ED ((d.moves++[[(n,some x)]]).foldl D6 []) (D6 d.now [(n,some x)]);rw[mJ];exact ae _ h.same
  ·intro y hy;show(upd d.node x ⟨[],0⟩ y).safe=(upd d.node x ⟨[],0⟩ y).data.length;rcases aU.1 hy with hy|hy
   ·rw[hu y hy];exact h.synced y hy
   ·simp at hy;subst hy;rw[nh];rfl
  ·intro y hy;show(upd d.node x ⟨[],0⟩ y).data.length<=_;rcases aU.1 hy with hy|hy
   ·rw[hu y hy];exact h.bound y hy
   ·simp at hy;subst hy;rw[nh];simp
  ·intro p hp;show p.2∈d.ids++[x];rcases Uf (show p∈kU d.now n x from hp) with rfl|hp
   ·simp
   ·exact aU.2 (.inl (h.named p hp))
  ·intro p hp;rcases Uf (show p∈kU d.now n x from hp) with rfl|hp
   ·exact hn
   ·exact h.names p hp
  ·have:=b9V d.now n x;have:=h.len;show(kU d.now n x).length<=k+1;omega
  ·show(d.moves++[[(n,some x)]]).length<=k+1;have:=h.vT;simp;omega
  ·intro l hl;rcases aU.1 (show l∈d.moves++[[(n,some x)]] from hl) with hl|hl
   ·exact h.pJ l hl
   ·simp at hl;subst hl;exact⟨by simp,λm hm=>by simp at hm;subst hm;exact hn⟩
theorem D.Calm.append{d:D}(h:d.Calm)(n:Nm)(b:List UInt8):d.append n b=match D7 d.now n with|none=>(.file 11 n,d)|some x=>if d.room - d.used<b.length then(.file 10 n,d) else(.ok,d.setNode x {d.node x with data:=(d.node x).data++b}):=by
 unfold D.append;rw[h.find];cases D7 d.now n<;>rfl
theorem D.Calm.sync{d:D}(h:d.Calm)(n:Nm):d.sync n=match D7 d.now n with|none=>(.file 11 n,d)|some x=>(.ok,d.setNode x {d.node x with safe:=(d.node x).data.length}):=by
 unfold D.sync;rw[h.find];cases D7 d.now n<;>rfl
theorem OS{α:Type}{f:α->Nat}{l:List α}{p:α}(h:p∈l):f p<=(l.map f).sum:=by
 induction l with
 | nil=>cases h
 | cons q l ih=>
  rw[aB,Rq];rcases aY.1 h with rfl|h
  ·omega
  ·have:=ih h;omega
theorem WF{d:D}{p:Nm×Nat}(hp:p∈d.now):(d.node p.2).data.length<=d.used:=by
 unfold D.used;exact OS (f:=λp=>(d.node p.2).data.length) hp
theorem D.Built.node{d:D}{k:Nat}(h:d.Built k){x:Nat}{y:Nd}(hy:y.safe=y.data.length)(hb:y.data.length<=1099511627776):(d.setNode x y).Built k:=by
 refine⟨h.calm,h.nodup,h.safe,h.same,?_,?_,h.room,h.named,h.names,h.len,h.vT,h.pJ⟩
 ·intro z hz;show(upd d.node x y z).safe=(upd d.node x y z).data.length;unfold upd;split
  ·exact hy
  ·exact h.synced z hz
 ·intro z hz;show(upd d.node x y z).data.length<=_;unfold upd;split
  ·exact hb
  ·exact h.bound z hz
theorem D.Built.sync{d:D}{k:Nat}(h:d.Built k)(n:Nm):(d.sync n).2.Built k:=by
 rw[h.calm.sync]
 cases e:D7 d.now n with
 | none=>exact h
 | some x=>exact h.node rfl (h.bound x (h.named _ (Ad e)))
theorem a8o(d:D)(x:Nat)(y z:Nd):(d.setNode x y).setNode x z=d.setNode x z:=by
 unfold D.setNode;congr 1
 funext i
 show upd (upd d.node x y) x z i=upd d.node x z i;unfold upd;split<;>rfl
theorem D.Built.tX{d:D}{k:Nat}(h:d.Built k)(n:Nm)(b:List UInt8):((d.append n b).2.sync n).2.Built k:=by
 rw[h.calm.append]
 cases e:D7 d.now n with
 | none=>exact h.sync n
 | some x=>
  dsimp only;by_cases hr:d.room - d.used<b.length
  ·rw[if_pos hr];exact h.sync n
  ·rw[if_neg hr];have hc:(d.setNode x {d.node x with data:=(d.node x).data++b}).Calm:=h.calm;rw[hc.sync];have e':D7 (d.setNode x {d.node x with data:=(d.node x).data++b}).now n=some x:=e;rw[e'];dsimp only;rw[a8o];have hu:(d.setNode x {d.node x with data:=(d.node x).data++b}).node x={d.node x with data:=(d.node x).data++b}:=by
    show upd d.node x _ x=_;unfold upd;rw[if_pos rfl]
   refine h.node ?_ ?_
   ·rw[hu]
   ·rw[hu];show((d.node x).data++b).length<=_;rw[aC];have:=WF (Ad e);have:=h.room;dsimp only at *;omega
theorem D.Built.gK{d:D}{k:Nat}(h:d.Built k):∃e:D,d.gK=(.ok,e)/\e.Safe/\e.now=d.now/\e.ids=d.ids/\e.node=d.node:=by
 refine⟨_,h.calm.gK,⟨h.calm,rfl,?_,h.nodup,?_,?_⟩,rfl,rfl,rfl⟩
 ·show ED (d.moves.foldl D6 d.safe) d.now;rw[h.safe];exact h.same
 ·show((d.moves.foldl D6 d.safe).map (·.1)).Nodup;rw[h.safe];exact a_ _ (by simp)
 ·intro p hp;have hp':p∈d.moves.foldl D6 []:=by
   have:p∈d.moves.foldl D6 d.safe:=hp;rwa [h.safe] at this
  have hn:((d.moves.foldl D6 []).map (·.1)).Nodup:=a_ _ (by simp);have e1:=am hn hp';rw[h.same] at e1;exact h.synced _ (h.named _ (Ad e1))
end Dk
end
section
open Go.RowKit Go.Lib Go.Maps Dk Pl
theorem Qs(er:Er)(v:Value)(w:World)(h:ErrAt w v er)(hl:Laid w):
 Calls prog 15 #[v] w λe w'=>e=.returned (.tuple #[.int .i64 er.code,bC er.name])/\Ext w w':=by
 cases er with
 | ok=>subst h;exact c2d w
 | num n=>subst h;exact c2e n w hl
 | file n nm=>
  obtain⟨b,rfl,hb⟩:=h;exact b8S ⟨b,0,none⟩ ⟨nm.toArray⟩ n w hl ((hb.cell 0).trans rfl) ((hb.cell 1).trans rfl)
theorem uR(n:Int)(w:World):Calls prog 47 #[.int .i64 n] w λe w'=>∃k:Nat,e=.returned (.int .i64 k)/\1<=k/\k<=999999/\w'=w:=by
 go_enter func47,ntmps47
 go_wp2;obtain⟨m,hm⟩:∃m,IntKind.u64.wrap (wrap64 (n - 1))=m:=⟨_,rfl⟩;have hm0:0<=m:=by rw[<-hm];exact Int.emod_nonneg _ (by decide)
 have hmod:m.tmod 999999=m%999999:=Int.tmod_eq_emod_of_nonneg hm0;have h1:0<=m%999999:=Int.emod_nonneg _ (by decide);have h2:m%999999<999999:=Int.emod_lt_of_pos _ (by decide);have h3:wrap64 (m%999999)=m%999999:=by unfold wrap64;omega
 have h4:wrap64 (1+m%999999)=((1+(m%999999).toNat:Nat):Int):=by unfold wrap64;omega
 rw[hm,hmod,h3,h4];go_ret;exact⟨_,rfl,by omega,by omega,rfl⟩
def Tv(F:Nat->Prop)(a:Nat)(k:Nat)(w:World)(e:Ending)(w':World):Prop:=
 e=.returned (.tuple #[])/\∃F' d,A7 w' F' a d/\d.Built k/\fA F F' w w'/\∀b,F b->F' b
theorem Ug(F:Nat->Prop)(a:Nat)(d:D)(k:Nat)(name:Nm)(u:Value)(l:List UInt8)(w:World)(h:A7 w F a d)(hb:d.Built k)(hk:k<=32000)(hn:name.length<=1000000)
 (hu:Held w F (λW=>Bytes W u l))(hl:l.length<=35184372088832)(hL:Held w F Laid):
 Calls prog 50 #[o7 a,bC name,u] w (Tv F a (k+1) w):=by
 have hcr:=b4M F a d name w h (by unfold maxLen;omega) (by have:=hb.vT;omega);obtain⟨ua,uc,rfl,huc,pd,-⟩:=hu.get.open;have V_:=ah hcr;have HB:=ah hb;have HU:=ah hu;have HL:=ah hL;clear hcr hb hu hL h;unfold o7 bC at *;go_enter func50,ntmps50
 go_wp2_with fail
 refine V_.out.mono ?_;rintro e w1 ⟨x,hx,F1,v1,rfl,hv1,hD1,sJ,hF1⟩;have hb1:=HB.out.create hx hn;have hL1:=HL.out.step sJ;have yt:=Qs _ v1 w1 hv1.get hL1.get;obtain⟨d1,hd1⟩:∃d1,(d.create name x).2=d1:=⟨_,rfl⟩;obtain⟨er,her⟩:∃er,(d.create name x).1=er:=⟨_,rfl⟩;rw[hd1] at hb1 hD1;rw[her] at yt;have HT:=ah yt;have HB1:=ah hb1;have vF:=ah sJ;have Iu:=ah hF1;have HD1:=ah hD1;have HU1:=ah (HU.out.step sJ);clear yt hb1 sJ hF1 hv1 hL1 hd1 her hx hD1 V_ HL;unfold bC at HT;go_wp2_with fail
 refine HT.out.mono ?_;rintro e w2 ⟨rfl,hE2⟩;have HE2:=ah hE2;clear hE2;by_cases hc:er.code=0
 ·have hap:=b4O F1 a d1 name (.slice ua l.length uc) l w2 (HD1.out.ext HE2.out) (HU1.out.ext HE2.out) (by unfold maxLen;omega) hl (λx hx=>by have:=HB1.out.bound x hx;omega) (by have:=HB1.out.len;omega);have E_:=ah hap;clear hap;unfold o7 bC at E_;go_wp2_with fail
  refine E_.out.mono ?_;rintro e w3 ⟨F3,v3,rfl,hv3,hD3,mD,hF3⟩;have hsy:=c0d F3 a _ name w3 hD3 (by unfold maxLen;omega);have Ru:=ah hsy;have oN:=ah mD;have HF3:=ah hF3;clear hsy mD hF3 hv3 hD3 E_;unfold o7 bC at Ru;go_wp2_with fail
  refine Ru.out.mono ?_;rintro e w4 ⟨F4,v4,rfl,hv4,hD4,vX,Ea⟩;have hfin:Tv F a (k+1) w (.returned (.tuple #[])) w4:=⟨rfl,F4,_,hD4,HB1.out.tX name l,((vF.out.trans (fA.ext HE2.out)).trans oN.out).trans vX,λb hb=>Ea b (HF3.out b (Iu.out b hb))⟩;have HF:=ah hfin;clear hfin hD4 vX Ea hv4;go_wp2;go_end0
  exact HF.out
 ·have hfin:Tv F a (k+1) w (.returned (.tuple #[])) w2:=⟨rfl,F1,d1,HD1.out.ext HE2.out,HB1.out,vF.out.trans (fA.ext HE2.out),Iu.out⟩;have HF:=ah hfin;clear hfin;go_wp2;go_end0
  exact HF.out
end
section
open Go.RowKit Go.Lib Go.Maps Dk Pl
structure Rc where
 seq:Nat
 key:ByteArray
 val:ByteArray
 del:Bool
structure Sg where
 id:Int
 recs:List Rc
 tail:List UInt8
 listed:Bool
 gone:Bool
structure Ot where
 name:ByteArray
 hint:Int
 bytes:List UInt8
structure Dr where
 dL:List Sg
 others:List Ot
 gen:Nat
 spoilt:List UInt8
 whole:Bool
 without:Bool
def RowOf{α:Type}(w:World)(v:Value)(l:List α)(sz:Nat)(at_:World->Addr->α->Prop):Prop:=
 ∃a cap,v=.slice a l.length cap/\l.length<=cap/\cap<=9223372036854775807/\∀i x,l[i]?=some x->∃b,a=some b/\at_ w (b.add (i*sz)) x
def Cc(w:World)(b:Addr)(r:Rc):Prop:=
 w.cell? b=some (.int .u64 r.seq)/\w.cell? ⟨b.block,b.off+1,none⟩=some (.string r.key)/\w.cell? ⟨b.block,b.off+2,none⟩=some (.string r.val)/\w.cell? ⟨b.block,b.off+3,none⟩=some (.bool r.del)
def zY(w:World)(b:Addr)(s:Sg):Prop:=
 ∃v1 v2,w.cell? b=some (.int .i64 s.id)/\w.cell? ⟨b.block,b.off+1,none⟩=some v1/\w.cell? ⟨b.block,b.off+2,none⟩=some v2/\w.cell? ⟨b.block,b.off+3,none⟩=some (.bool s.listed)/\w.cell? ⟨b.block,b.off+4,none⟩=some (.bool s.gone)/\
  RowOf w v1 s.recs 4 Cc/\Bytes w v2 s.tail
def B_(w:World)(b:Addr)(s:Ot):Prop:=
 ∃v2,w.cell? b=some (.string s.name)/\w.cell? ⟨b.block,b.off+1,none⟩=some (.int .i64 s.hint)/\w.cell? ⟨b.block,b.off+2,none⟩=some v2/\Bytes w v2 s.bytes
def Ef(w:World)(v:Value)(d:Dr):Prop:=
 ∃v0 v1 v3,v=.agg #[v0,v1,.int .u64 d.gen,v3,.bool d.whole,.bool d.without]/\RowOf w v0 d.dL 5 zY/\RowOf w v1 d.others 3 B_/\Bytes w v3 d.spoilt
theorem RowOf.ext{α:Type}{w w':World}{v:Value}{l:List α}{sz:Nat}{at_:World->Addr->α->Prop}(h:RowOf w v l sz at_)(hat:∀b x,at_ w b x->at_ w' b x):RowOf w' v l sz at_:=by
 obtain⟨a,cap,rfl,h1,h2,h3⟩:=h;refine⟨a,cap,rfl,h1,h2,λi x hx=>?_⟩;obtain⟨b,rfl,hb⟩:=h3 i x hx;exact⟨b,rfl,hat _ _ hb⟩
theorem Cc.ext{w w':World}{b:Addr}{r:Rc}(hE:Ext w w')(h:Cc w b r):Cc w' b r:=⟨hE.cell h.1,hE.cell h.2.1,hE.cell h.2.2.1,hE.cell h.2.2.2⟩
theorem zY.ext{w w':World}{b:Addr}{r:Sg}(hE:Ext w w')(h:zY w b r):zY w' b r:=by
 obtain⟨v1,v2,h0,h1,h2,h3,h4,h5,h6⟩:=h;exact⟨v1,v2,hE.cell h0,hE.cell h1,hE.cell h2,hE.cell h3,hE.cell h4,h5.ext λ_ _=>Cc.ext hE,h6.ext hE⟩
theorem B_.ext{w w':World}{b:Addr}{r:Ot}(hE:Ext w w')(h:B_ w b r):B_ w' b r:=by
 obtain⟨v2,h0,h1,h2,h3⟩:=h;exact⟨v2,hE.cell h0,hE.cell h1,hE.cell h2,h3.ext hE⟩
theorem Ef.ext{w w':World}{v:Value}{d:Dr}(h:Ef w v d)(hE:Ext w w'):Ef w' v d:=by
 obtain⟨v0,v1,v3,rfl,h0,h1,h3⟩:=h;exact⟨v0,v1,v3,rfl,h0.ext λ_ _=>zY.ext hE,h1.ext λ_ _=>B_.ext hE,h3.ext hE⟩
theorem RowOf.form{α:Type}{w:World}{v:Value}{l:List α}{sz:Nat}{at_:World->Addr->α->Prop}(h:RowOf w v l sz at_):∃a cap,v=.slice a l.length cap/\l.length<=cap/\cap<=9223372036854775807:=by
 obtain⟨a,cap,rfl,h1,h2,_⟩:=h;exact⟨a,cap,rfl,h1,h2⟩
theorem RowOf.at{α:Type}{w:World}{a:Option Addr}{cap:Nat}{l:List α}{sz:Nat}{at_:World->Addr->α->Prop}(h:RowOf w (.slice a l.length cap) l sz at_){i:Nat}{x:α}(hx:l[i]?=some x):∃b,a=some b/\at_ w (b.add (i*sz)) x:=by
 obtain⟨a',cap',e,_,_,h3⟩:=h;injection e with e1;subst e1;exact h3 i x hx
structure Dr.Small(d:Dr):Prop where
 dL:d.dL.length<=60
 others:d.others.length<=300
 spoilt:d.spoilt.length<=40000
 tail:∀s∈d.dL,s.tail.length<=40000
 recs:∀s∈d.dL,s.recs.length<=2000/\∀r∈s.recs,r.key.size<=40000/\r.val.size<=40000
 other:∀s∈d.others,s.name.size<=40000/\s.bytes.length<=40000
structure Dr.Fits(d:Dr)(B:Nat):Prop where
 tail:∀s∈d.dL,s.tail.length<=B
 recs:∀s∈d.dL,∀r∈s.recs,r.key.size<=B/\r.val.size<=B
 other:∀s∈d.others,s.name.size<=B/\s.bytes.length<=B
end
section
open Go.RowKit Go.Lib Pl
theorem a8v(seq:Nat)(k v:List UInt8)(d:Bool)(hk:k.length<=16)(hv:v.length<=64):(summed (body seq k v d)).length<=200:=by
 unfold summed body;simp[I7];omega
def Z3(w:World)(e:Ending)(w':World):Prop:=
 ∃(x:Value)(n:Int)(l:List UInt8),e=.returned (.tuple #[x,.int .i64 n])/\Ext w w'/\OwnB w' w.heap.size x l/\l.length<=200
theorem Qw(w:World)(B:Nat):OwnB w B (.slice none 0 0) []:=⟨rfl,.inl ⟨rfl,rfl⟩⟩
theorem b5T(seq:Nat)(k v:ByteArray)(d:Bool)(sz:Int)(w:World):
 Calls prog 49 #[w_ seq k v d sz] w (Z3 w):=by
 by_cases h1:k.size<1\/16<k.size
 ·refine(b0q seq k v d sz w h1).mono ?_;rintro e w' ⟨rfl,hE⟩;exact⟨_,_,[],rfl,hE,Qw _ _,by simp⟩
 by_cases h2:64<v.size\/(v.size<=64/\d=true/\0<v.size)
 ·refine(b0r seq k v d sz w (by omega) (by omega) h2).mono ?_;rintro e w' ⟨rfl,hE⟩;exact⟨_,_,[],rfl,hE,Qw _ _,by simp⟩
 ·refine(b2M seq k v d sz w (by omega) (by omega) (by omega) ?_).mono ?_
  ·cases d
   ·exact .inl rfl
   ·right;rcases dU v.size with h|h
    ·exact h
    ·exact absurd (.inr ⟨by omega,rfl,h⟩) h2
  ·rintro e w' ⟨x,rfl,hO,hE⟩;exact⟨_,_,_,rfl,hE,hO,a8v _ _ _ _ (by rw[J6];omega) (by rw[J6];omega)⟩
end
section
open Go.RowKit Go.Lib Pl
def c1X(gen:Nat)(l:List Int)(w:World)(e:Ending)(w':World):Prop:=
 ∃x,e=.returned (.tuple #[x,.int .i64 (if nC l=true then 0 else 4)])/\Ext w w'/\
  ((nC l=true/\OwnB w' w.heap.size x (summed (Aa gen l)))\/(nC l=false/\x=.slice none 0 0))
theorem a8x(gen:Nat)(v:Value)(l:List Int)(w:World)(h:Ints w v l):
 Calls prog 52 #[.int .u64 gen,v] w (c1X gen l w):=by
 obtain⟨a,cap,rfl,hc,hc',-⟩:=h.open;obtain⟨i0,hi,hz0,hz1,hz2⟩:=info_parts JY;have HI:=ah h;clear h;go_enter func52,ntmps52
 go_wp2_with fail
 refine(Wc _ l w HI.out).mono ?_;rintro e w1 ⟨rfl,q,hq⟩;have hE1:Ext w w1:=by rw[hq];exact Ext.drewN w q
 clear hq
 cases hok:nC l with
 | false=>
  go_wp2;go_ret2
  exact⟨_,by rw[hok];rfl,hE1,Or.inr ⟨hok,rfl⟩⟩
 | true=>
  have pp:l.length<=60:=by
   have:=hok;unfold nC at this;exact dF (jm.1 this).1
  have oR:OwnB w1 w.heap.size (.slice none 0 0) []:=⟨rfl,Or.inl ⟨rfl,rfl⟩⟩;go_wp2_with fail
  refine(X8 _ w.heap.size [] gen 8 w1 oR (by omega) (by simp) hE1.size).mono ?_;rintro e w2 ⟨v2,rfl,hO2,hb2⟩;have hE2:=Below.trans hE1 hb2;clear hE1 hb2 oR;have hwl:IntKind.u64.wrap (l.length:Int)=(l.length:Int):=by rw[IntKind.wrap_u64];omega
  go_wp2_with fail
  refine(X8 _ w.heap.size _ l.length 2 w2 hO2 (by omega) (by simp[I7]) hE2.size).mono ?_;rintro e w3 ⟨v3,rfl,hO3,hb3⟩;have jX:=Below.trans hE2 hb3;clear hE2 hb3 hO2;have hin:∀n∈l,inRange n=true:=by
   have:=hok;unfold nC at this;exact aQ.1 (jm.1 (jm.1 this).2).1
  go_wp2;go_loopw [7,8] (λu i wr=>∃k:Nat,k<=l.length/\i=.int .i64 k/\OwnB wr w.heap.size u ([]++be gen 8++be l.length 2++zA (l.take k))/\Ext w wr) (λ_ i _=>l.length - (intOf i).toNat)
  case atStart=>exact⟨0,bU _,rfl,by simpa [zA] using hO3,jX⟩
  case round=>
   clear hO3 jX;obtain⟨k,hk,rfl,hO,hE⟩:=hrel;have hlb:=eo (l.take k);rw[bD] at hlb;by_cases hlt:k<l.length
   ·obtain⟨b,rfl,hb⟩:∃b,a=some b/\wr.cell? (b.add k)=some (.int .i64 (l[k])):=by
     obtain⟨a',c',e,_,_,hf⟩:=(HI.out.ext hE).open;injection e with e1;subst e1;exact hf k hlt
    have hir:=hin _ (fE hlt);unfold inRange at hir;have hi1:=dF (jm.1 hir).1;have hi2:=dF (jm.1 hir).2;have hsn:zA (l.take (k+1))=zA (l.take k)++be (l[k]).toNat 4:=by rw[take_snoc l k hlt,b2p]
    have HS:=ah hsn;clear hsn hir;generalize l[k]=x at *;obtain⟨x,rfl⟩:=nG (show 0<=x by omega);have hwx:IntKind.u64.wrap (x:Int)=(x:Int):=by rw[IntKind.wrap_u64];omega
    have hcall:=X8 _ w.heap.size _ x 4 _ hO (by omega) (by simp[I7];omega) hE.size;have HE:=ah hE;clear hE hO;go_wp2_with fail
    refine hcall.mono ?_;rintro e w5 ⟨v5,rfl,Gm,hb5⟩;have mg:Ext w w5:=Below.trans HE.out hb5;clear hcall hb5 HE;go_wp2;go_roundw
    case rel=>exact⟨k+1,by omega,by go_num,by rw[HS.out];simpa using Gm,mg⟩
    case measure=>simp[intOf];omega
   ·obtain rfl:k=l.length:=by omega
    rw[bG] at hO;have hd:[]++be gen 8++be l.length 2++zA l=Aa gen l:=by unfold Aa;simp
    rw[hd] at hO;have hml:(Aa gen l).length<=300:=by unfold Aa;simp[I7,eo];omega
    have hdecl:∃m,m=Aa gen l:=⟨_,rfl⟩;have HE:=ah hE;have HO:=ah hO;clear hE hO hd hdecl;go_wp2_with fail
    refine(QH _ (Aa gen l) _ HO.out.bytes).mono ?_;rintro e w5 ⟨rfl,rfl⟩;have hown:OwnB wr w.heap.size u7 (Aa gen l):=HO.out;have hE:Ext w wr:=HE.out;clear HO HE;generalize hI:Aa gen l=I at *;have hwc:IntKind.u64.wrap ((crc I:Nat):Int)=((crc I:Nat):Int):=by rw[IntKind.wrap_u64];have:=Ew I;omega
    have HO:=ah hown;have HE:=ah hE;clear hown hE;go_wp2_with fail
    refine(X8 _ wr.heap.size [] (crc I) 4 _ (World.ownsRow_nil _ _ _ _) (by omega) (by simp) (aj _)).mono ?_;rintro e w9 ⟨v9,rfl,jO,uJ⟩;rw[cO] at jO;generalize hC:be (crc I) 4=C at *;have sH:C.length=4:=by rw[<-hC,I7]
    have HC:=ah hC;clear hC;have EZ:=ah sH;clear sH;clear hwc;go_wp2_with (at_builtin;go_must (refine D8 rfl _ _ 25 rfl wr.heap.size 5 i0 (.int .u8 0) 1 1 underlying25 hi hz0 hz1 hz2 rfl (by omega) v9 C.length _ rfl jO u7 I.length (I.map dX) rfl (HO.out.bytes.ext uJ) (by simp) (EP _) (by rw[EZ.out];unfold maxLen;omega) (by rw[EZ.out];omega) uJ.size ?_);intro b10 c10 w10 kD jP nX;clear nX)
    go_ret2
    refine⟨_,by rw[if_pos hok];rfl,?_,Or.inl ⟨hok,?_⟩⟩
    ·exact(Below.trans HE.out (uJ.mono HE.out.size)).grown jP (ay HE.out.size uJ.size) (λr hr=>by have:=(jO.lt r hr).1;have:=HE.out.size;omega)
    ·have e1:(summed I).map dX=C.map dX++I.map dX:=by rw[<-bY,summed,HC.out]
     have e2:(summed I).length=C.length+I.length:=by rw[summed,HC.out,aC]
     unfold OwnB;rw[hI,e1,e2];exact O4 kD HE.out.size
end
section
open Go.RowKit Go.Lib Go.Maps Dk Pl
theorem Held.laid{w0 wr:World}{F:Nat->Prop}(h:Laid w0)(hE:Ext w0 wr)(hF:∀b,F b->w0.heap.size<=b):Held wr F Laid:=by
 have hlt:0<w0.heap.size:=dB λhn=>by
  unfold Laid World.cell? at h;have:w0.heap[0]?=none:=by rw[aW];omega
  rw[this] at h;cases h
 refine .of (S:=λb=>b=0) (λw' hw=>?_) λb e=>by subst e;exact⟨ak hlt hE.size,λhb=>by have:=hF _ hb;omega⟩
 have h2:=Laid.ext h hE;unfold Laid World.cell? at h2⊢;rw[hw _ rfl];exact h2
theorem Held.lift{w0 wr:World}{F:Nat->Prop}{Φ:World->Prop}(h:Held w0 (λ_=>False) Φ)(hE:Ext w0 wr)(hF:∀b,F b->w0.heap.size<=b):Held wr F Φ:=by
 obtain⟨S,h1,h2⟩:=h;exact⟨S,λb hb=>⟨ak (h1 b hb).1 hE.size,λhb'=>by have:=hF b hb';have:=(h1 b hb).1;omega⟩,λw' hw=>h2 w' λb hb=>(hw b hb).trans (hE.block b (h1 b hb).1)⟩
structure uq(w0:World)(a k:Nat)(F:Nat->Prop)(E:D)(wr:World):Prop where
 disk:A7 wr F a E
 built:E.Built k
 ext:Ext w0 wr
 low:∀b,F b->w0.heap.size<=b
theorem uq.to{w0:World}{a k:Nat}{F:Nat->Prop}{E:D}{wr w':World}(h:uq w0 a k F E wr)(hE:Ext wr w'):uq w0 a k F E w':=⟨h.disk.ext hE,h.built,h.ext.trans hE,h.low⟩
theorem uq.more{w0:World}{a k m:Nat}{F:Nat->Prop}{E:D}{wr:World}(h:uq w0 a k F E wr)(hk:k<=m):uq w0 a m F E wr:=⟨h.disk,h.built.more hk,h.ext,h.low⟩
theorem uq.file{w0:World}{a k:Nat}{F:Nat->Prop}{E:D}{wr w':World}{e:Ending}(h:uq w0 a k F E wr)(hf:Tv F a (k+1) wr e w'):∃F' E',uq w0 a (k+1) F' E' w'/\fA F F' wr w':=by
 obtain⟨-,F',E',hD,hB,hC,hF⟩:=hf;refine⟨F',E',⟨hD,hB,?_,λb hb=>?_⟩,hC⟩
 ·exact h.ext.trans' (hC.below h.low h.ext.size)
 ·rcases hC.grow b hb with h1|h1
  ·exact h.low b h1
  ·have:=h.ext.size;omega
theorem ai(kind:Nm)(k:Nat):(F6 kind k).length=kind.length+6:=by simp[F6]
theorem b72(b:ByteArray):bC b.data.toList=.string b:=rfl
structure xw(n0:Nat)(F:Nat->Prop)(v:Value)(l:List Int)(w:World):Prop where
 own:iQ w n0 v l
 off:∀b,v.ownBlock=some b->¬F b
theorem xw.held{n0:Nat}{F:Nat->Prop}{v:Value}{l:List Int}{w:World}(h:xw n0 F v l w):Held w F (λW=>iQ W n0 v l):=
 .of (iV.row h.own) λb hb=>⟨(World.ownsRow.lt h.own b hb).2,h.off b hb⟩
theorem xw.step{n0:Nat}{F F':Nat->Prop}{v:Value}{l:List Int}{w w':World}(h:xw n0 F v l w)(c:fA F F' w w'):xw n0 F' v l w':=
 ⟨(h.held.step c).get,λb hb hF=>(c.grow b hF).elim (h.off b hb) λh1=>by have:=(World.ownsRow.lt h.own b hb).2;omega⟩
theorem xw.to{n0:Nat}{F:Nat->Prop}{v:Value}{l:List Int}{w w':World}(h:xw n0 F v l w)(hE:Ext w w'):xw n0 F v l w':=h.step (fA.ext hE)
def zE(w:World)(e:Ending)(w':World):Prop:=
 ∃a F d,e=.returned (o7 a)/\A7 w' F a d/\d.Safe/\(∀x∈d.ids,(d.node x).data.length<=1099511627776)/\d.now.length<=400/\(∀p∈d.now,p.1.length<=1000000)/\Ext w w'/\∀b,F b->w.heap.size<=b
theorem c0B(v:Value)(d:Dr)(w:World)(h:Ef w v d)(hs:d.Small)(hL:Laid w):
 Calls prog 13 #[v,.int .i64 1099511627776] w (zE w):=by
 obtain⟨v0,v1,v3,rfl,h0,h1,h3⟩:=h;obtain⟨a0,c0,rfl,hl0,hm0⟩:=h0.form;obtain⟨a1,c1,rfl,hl1,hm1⟩:=h1.form;obtain⟨a3,c3,rfl,hl3,po,-⟩:=h3.open;obtain⟨w0,hw0⟩:∃w0,w.alloc (.cells #[.slice a0 d.dL.length c0,.slice a1 d.others.length c1,.int .u64 d.gen,.slice a3 d.spoilt.length c3,.bool d.whole,.bool d.without] 27)=w0:=⟨_,rfl⟩;have hb0:o8 w0 w.heap.size 27 #[.slice a0 d.dL.length c0,.slice a1 d.others.length c1,.int .u64 d.gen,.slice a3 d.spoilt.length c3,.bool d.whole,.bool d.without]:=hw0▸o8.new _ _ rfl;have qI:Ext w w0:=hw0▸(Ext.refl w).new _;have b0:=(hb0.cell 0).trans (show _=some (Value.slice a0 d.dL.length c0) from rfl);have b1:=(hb0.cell 1).trans (show _=some (Value.slice a1 d.others.length c1) from rfl);have b2:=(hb0.cell 2).trans (show _=some (Value.int .u64 d.gen) from rfl);have b3:=(hb0.cell 3).trans (show _=some (Value.slice a3 d.spoilt.length c3) from rfl);have b4:=(hb0.cell 4).trans (show _=some (Value.bool d.whole) from rfl);have b5:=(hb0.cell 5).trans (show _=some (Value.bool d.without) from rfl);have hnew:=b3o 1099511627776 w0 (by omega);have H0:=ah (h0.ext λ_ _=>zY.ext qI);have H1:=ah (h1.ext λ_ _=>B_.ext qI);have H3:=ah (h3.ext qI);have HS:=ah hs;have VW:=ah (hL.ext qI);have VZ:=ah qI;have HW0:=ah hw0;have RF:=ah hnew;have B0:=ah b0;have B1:=ah b1;have B2:=ah b2;have B3:=ah b3;have B4:=ah b4;have B5:=ah b5;clear h0 h1 h3 hs hL qI hw0 hb0 hnew b0 b1 b2 b3 b4 b5;obtain⟨i0,hi,hz0,hz1,hz2⟩:=info_parts JY;obtain⟨ii,hii,hi0,hi1,hi2⟩:=info_parts ZF;obtain⟨n0,hn0⟩:∃n0,w0.heap.size=n0:=⟨_,rfl⟩;go_enter func13,ntmps13
 go_wp2_with fail
 rw[HW0.out];refine RF.out.mono ?_;rintro e w1 ⟨a,F1,rfl,hD1,hE1,hF1⟩;have NI:xw n0 F1 (.slice none 0 0) [] w1:=⟨⟨rfl,.inl ⟨rfl,rfl⟩⟩,λb hb=>by cases hb⟩;have HD1:=ah hD1;have lV:=ah hE1;have Iu:=ah hF1;have HL1:=ah NI;clear hD1 hE1 hF1 NI RF;unfold o7;go_wp2;go_loopw [6,7] (λids i wr=>∃(k:Nat)(F:Nat->Prop)(D:D)(l:List Int),k<=d.dL.length/\i=.int .i64 k/\uq w0 a k F D wr/\l.length<=k/\xw n0 F ids l wr) (λ_ i _=>d.dL.length - (intOf i).toNat)
 case atStart=>exact⟨0,F1,_,[],by omega,rfl,⟨HD1.out,D.Built.empty,lV.out,Iu.out⟩,by simp,HL1.out⟩
 case round=>
  obtain⟨k,F,E,l,hk,rfl,hST,hll,hI⟩:=hrel;have b0:=hST.ext.cell B0.out;have HST:=ah hST;have HI:=ah hI;obtain⟨ia,ic,hiv⟩:=ownsRow_form hI.own;subst hiv;clear hST hI;have hsg:=HS.out.dL;by_cases hlt:k<d.dL.length
  ·obtain⟨s,hs⟩:∃s,d.dL[k]?=some s:=⟨_,au hlt⟩;have hsm:=aJ hs;have hst:=HS.out.tail s hsm;have hsr:=HS.out.recs s hsm;obtain⟨b,rfl,u1,u2,s0,s1,s2,s3,s4,hrec,htail⟩:=(H0.out.ext λ_ _=>zY.ext HST.out.ext).at hs;obtain⟨ra,rc,rfl,hrc,Nr⟩:=hrec.form;obtain⟨ta,tc,rfl,htc,Na,-⟩:=htail.open;have Io:=ah hrec;have HSR:=ah hsr;have rZ:=ah htail;clear hrec htail hs hsm hsr;obtain⟨nb,hnb⟩:∃nb,wr.heap.size=nb:=⟨_,rfl⟩;obtain⟨wA,hwA⟩:∃wA,wr.alloc (.cells #[.int .i64 s.id,.slice ra s.recs.length rc,.slice ta s.tail.length tc,.bool s.listed,.bool s.gone] 94)=wA:=⟨_,rfl⟩;have DX:o8 wA nb 94 #[.int .i64 s.id,.slice ra s.recs.length rc,.slice ta s.tail.length tc,.bool s.listed,.bool s.gone]:=hwA▸o8.new _ _ hnb;have hEA:Ext wr wA:=hwA▸(Ext.refl wr).new _;have q1:=(DX.cell 1).trans (show _=some (Value.slice ra s.recs.length rc) from rfl);have q2:=(DX.cell 2).trans (show _=some (Value.slice ta s.tail.length tc) from rfl);have q3:=(DX.cell 3).trans (show _=some (Value.bool s.listed) from rfl);have q4:=(DX.cell 4).trans (show _=some (Value.bool s.gone) from rfl);have hid:=uR s.id wA;have DV:Held wA F (λW=>o8 W nb 94 #[.int .i64 s.id,.slice ra s.recs.length rc,.slice ta s.tail.length tc,.bool s.listed,.bool s.gone]):=Held.box DX λhF=>by have:=HST.out.disk.low nb hF;omega
   have Wj:=ah DV;clear DV;have ga:=ah hid;have HWA:=ah hwA;have zT:=ah hEA;have HNB:=ah hnb;have Q1:=ah q1;have Q2:=ah q2;have Q3:=ah q3;have Q4:=ah q4;clear hid hwA hEA DX q2 q3 q4 hnb;obtain⟨nA,hnA⟩:∃nA,wA.heap.size=nA:=⟨_,rfl⟩;go_wp2_with fail
   rw[HWA.out,HNB.out];refine ga.out.mono ?_;rintro e w2 ⟨y,rfl,hy1,hy2,hw2⟩;rw[hw2];clear hw2;go_wp2;go_loopw [10,11] (λbs i wq=>∃(j:Nat)(m:List UInt8),j<=s.recs.length/\i=.int .i64 j/\OwnB wq nA bs m/\m.length<=200*j/\Ext wA wq) (λ_ i _=>s.recs.length - (intOf i).toNat)
   case atStart=>exact⟨0,[],by omega,rfl,Qw _ _,by simp,Ext.refl _⟩
   case round=>
    obtain⟨j,m,hj,rfl,hown,hml,hEq⟩:=hrel;obtain⟨ma,mc,rfl⟩:=ownsRow_form hown;have q1:=hEq.cell Q1.out;have HOWN:=ah hown;have qR:=ah hEq;clear hown hEq;have hrl:=HSR.out.1;by_cases hjl:j<s.recs.length
    ·obtain⟨r,hr⟩:∃r,s.recs[j]?=some r:=⟨_,au hjl⟩;obtain⟨bb,rfl,r0,r1,r2,r3⟩:=(Io.out.ext λ_ _=>Cc.ext (zT.out.trans qR.out)).at hr;have hrec:=b42 r.seq r.key r.val r.del wr;have fq:=ah hrec;clear hrec hr;unfold YO w_ at fq;go_wp2_with fail
     refine fq.out.mono ?_;rintro e w3 ⟨rfl,jX⟩;have henc:=b5T r.seq r.key r.val r.del 0 (w3.alloc (.cells #[.int .u64 r.seq,.string r.key,.string r.val,.bool r.del,.int .i64 0] 116));have gC:=ah henc;have qG:=ah jX;clear henc jX;unfold w_ at gC;go_wp2_with fail
     refine gC.out.mono ?_;rintro e w4 ⟨x,n,m2,rfl,mW,hO4,hl4⟩;have tK:Ext wr w4:=(qG.out.new _).trans mW;by_cases hn:n=0
     ·subst hn;have Xo:nA<=w4.heap.size:=by have:=qR.out.size;have:=tK.size;omega
      obtain⟨xa,xc,rfl⟩:=ownsRow_form hO4;have hO:=ownsRow_below HOWN.out tK;have hB4:=hO4.bytes;have HO:=ah hO;have HB4:=ah hB4;have xI:=ah (qR.out.trans tK);clear hO hB4 tK mW hO4 HOWN gC fq;go_wp2_with (at_builtin;go_must (refine D8 rfl _ _ 25 rfl nA 5 i0 (.int .u8 0) 1 1 underlying25 hi hz0 hz1 hz2 rfl (by omega) (.slice ma m.length mc) m.length (m.map dX) rfl HO.out (.slice xa m2.length xc) m2.length (m2.map dX) rfl HB4.out (by simp) (EP m2) (by unfold maxLen;omega) (by omega) Xo ?_);intro b5 c5 w5 hown5 mQ FZ;clear FZ)
      have Gm:OwnB w5 nA (.slice b5 (m.length+m2.length) c5) (m++m2):=by
       unfold OwnB;rw[bY,aC];exact hown5
      have mg:Ext wA w5:=Below.grown xI.out mQ (by omega) (λr hr=>by have:=(HO.out.lt r hr);omega);have fy:=ah Gm;have r_:=ah mg;clear Gm mg hown5 mQ;go_roundw
      case rel=>exact⟨j+1,m++m2,by omega,by go_num,fy.out,by rw[aC];omega,r_.out⟩
      case measure=>simp[intOf];omega
     ·have hnn:(n==0)=false:=bn.2 hn;have OD:=qR.out.trans tK;have hO:=ownsRow_below HOWN.out tK;have HO:=ah hO;have xI:=ah OD;clear hO OD tK mW hO4 hn HOWN;go_wp2;go_roundw
      case rel=>exact⟨j+1,m,by omega,by go_num,HO.out,by omega,xI.out⟩
      case measure=>simp[intOf];omega
    ·obtain rfl:j=s.recs.length:=by omega
     have q2:=qR.out.cell Q2.out;have q4:=qR.out.cell Q4.out;have htb:=rZ.out.ext (zT.out.trans qR.out);have hsz5:nA<=wr.heap.size:=by have:=qR.out.size;omega
     have HTB:=ah htb;clear htb;have Xn:=qR.out.size;go_wp2_with (at_builtin;go_must (refine D8 rfl _ _ 25 rfl nA 5 i0 (.int .u8 0) 1 1 underlying25 hi hz0 hz1 hz2 rfl (by omega) (.slice ma m.length mc) m.length (m.map dX) rfl HOWN.out (.slice ta s.tail.length tc) s.tail.length (s.tail.map dX) rfl HTB.out (by simp) (EP _) (by unfold maxLen;omega) (by omega) hsz5 ?_);intro b5 c5 w5 hown5 mQ FZ;clear FZ;have mg:=Below.grown qR.out mQ Xn (λr hr=>by have:=(HOWN.out.lt r hr);omega);have q5:=Ext.cell mg Q4.out;have r_:=ah mg;clear mg)
     have hnm:=cN I8 y w5 (by simp[I8]) hy2;have vC:=ah hnm;clear hnm;have Gm:OwnB w5 nA (.slice b5 (m.length+s.tail.length) c5) (m++s.tail):=by
      unfold OwnB;rw[bY,aC];exact hown5
     have fy:=ah Gm;clear Gm hown5 mQ q5 q4 q2 q1 s0 s3 s4;unfold bC I8 at vC;go_wp2_with fail
     refine vC.out.mono ?_;rintro e w6 ⟨rfl,ni⟩;have lF:uq w0 a k F E w6:=HST.out.to ((zT.out.trans r_.out).trans ni);have OC:∀b,F b->b<nA:=λb hb=>by have:=HST.out.disk.low b hb;have:=zT.out.size;omega
     have Om:OwnB w6 nA (.slice b5 (m.length+s.tail.length) c5) (m++s.tail):=ownsRow_below fy.out ni;have hby:Held w6 F (λW=>Bytes W (.slice b5 (m.length+s.tail.length) c5) (m++s.tail)):=(Held.ownB Om λb hb hF=>by have:=(Om.lt b hb).1;have:=OC b hF;omega).mono λW hW=>OwnB.bytes hW;have jC:=Ug F a E k (F6 I8 y) _ (m++s.tail) w6 lF.disk lF.built (by omega) (by rw[ai];simp[I8]) hby (by rw[aC];omega) (Held.laid VW.out lF.ext lF.low);have xG:=ah jC;have Ij:=ah lF;have qU:=ah ni;clear jC lF hby Om OC ni;unfold o7 bC at xG;go_wp2_with fail
     refine xG.out.mono ?_;rintro e w7 hfl;obtain rfl:=hfl.1;obtain⟨F7,E7,nU,Yv⟩:=Ij.out.file hfl;have lX:=ah nU;have EX:=ah ((HI.out.to ((zT.out.trans r_.out).trans qU.out)).step Yv);have ja:=ah ((Wj.out.ext (Ext.trans r_.out qU.out)).step Yv);clear nU Yv hfl;go_wp2_with fail
     rotate_left
     have hx:∃F7 E7,uq w0 a (k+1) F7 E7 w5/\xw n0 F7 (.slice ia l.length ic) l w5/\Held w5 F7 (λW=>o8 W nb 94 #[.int .i64 s.id,.slice ra s.recs.length rc,.slice ta s.tail.length tc,.bool s.listed,.bool s.gone]):=
      ⟨F,E,⟨HST.out.disk.ext (zT.out.trans r_.out),HST.out.built.more (by omega),HST.out.ext.trans (zT.out.trans r_.out),HST.out.low⟩,HI.out.to (zT.out.trans r_.out),Wj.out.ext r_.out⟩
     obtain⟨F7,E7,nU,oa,hb7⟩:=hx;have lX:=ah nU;have EX:=ah oa;have ja:=ah hb7;clear nU oa hb7 hown5 mQ q5 q4 q2 q1 s0 s3 s4;all_goals
      rename World=>wz
      have hin:=SU (.slice ia l.length ic) l (y:Int) wz EX.out.own.ints;have q3:=(ja.out.get.cell 3).trans (show _=some (Value.bool s.listed) from rfl);have RI:=ah hin;clear hin;refine RI.out.mono ?_;rintro e w8 ⟨rfl,hw8⟩;rw[hw8];clear hw8 w8 RI
      cases hsl:s.listed with
      | false=>
       rw[hsl] at q3;go_wp2;go_roundw
       case rel=>exact⟨k+1,F7,E7,l,by omega,by go_num,lX.out,by omega,EX.out⟩
       case measure=>simp[intOf];omega
      | true=>
       rw[hsl] at q3
       cases hyl:decide ((y:Int)∈l) with
       | true=>
        go_wp2;go_roundw
        case rel=>exact⟨k+1,F7,E7,l,by omega,by go_num,lX.out,by omega,EX.out⟩
        case measure=>simp[intOf];omega
       | false=>
        have hszz:n0<=wz.heap.size:=by have:=lX.out.ext.size;omega
        have hsz0:wz.heap.size<=(wz.alloc (.cells #[.int .i64 y] 3)).heap.size:=by simp
        go_wp2_with (at_builtin;go_must (refine D8 rfl _ _ 69 rfl n0 3 ii (.int .i64 0) 1 8 underlying69 hii hi0 hi1 hi2 rfl (by omega) (.slice ia l.length ic) l.length _ rfl (World.ownsRow.alloc EX.out.own (.cells #[.int .i64 y] 3)) (.slice (some ⟨wz.heap.size,0,none⟩) 1 1) 1 [.int .i64 y] rfl (aD wz _ _) rfl (by simp[Value.oneCell']) (by unfold maxLen;omega) (by omega) (by omega) ?_);intro b9 c9 w9 jO pR Oh)
        have Ju:iQ w9 n0 (.slice b9 (l.length+1) c9) (l++[(y:Int)]):=by
         unfold iQ;rw[bY,aC];exact jO
        have Yr:Ext w0 (wz.alloc (.cells #[.int .i64 y] 3)):=lX.out.ext.new _;have vV:Ext w0 w9:=Below.grown Yr pR (by have:=Yr.size;omega) (λr hr=>by have:=(World.ownsRow.lt EX.out.own r hr).1;omega);have pL:A7 w9 F7 a E7:=lX.out.disk.frame (λb hb=>by
         have hlt:=lX.out.disk.low b hb;refine(pR.block b (by simp;omega) (λe=>EX.out.off b e.symm hb)).trans ?_;exact heap_alloc_old _ _ hlt) (by have:=pR.size;omega)
        have yJ:xw n0 F7 (.slice b9 (l.length+1) c9) (l++[(y:Int)]) w9:=⟨Ju,λb hb hF=>by
         rcases Oh with h|h
         ·exact EX.out.off b (h.symm.trans hb) hF
         ·have:=lX.out.disk.low b hF;rw[h] at hb;injection hb with hb;simp at hb;omega⟩
        have fj:=ah (⟨pL,lX.out.built,vV,lX.out.low⟩:uq w0 a (k+1) F7 E7 w9);have HI9:=ah yJ;clear Ju Yr vV pL yJ jO pR Oh;go_roundw
        case rel=>exact⟨k+1,F7,E7,l++[(y:Int)],by omega,by go_num,fj.out,by simp;omega,HI9.out⟩
        case measure=>simp[intOf];omega
  ·obtain rfl:k=d.dL.length:=by omega
   have b2:=HST.out.ext.cell B2.out;have hwm:=a8x d.gen (.slice ia l.length ic) l wr HI.out.own.ints;have dC:=ah hwm;clear hwm;obtain⟨nB,hnB⟩:∃nB,wr.heap.size=nB:=⟨_,rfl⟩;go_wp2_with fail
   refine dC.out.mono ?_;rintro e w2 ⟨x,rfl,hE2,hcase⟩;obtain⟨ml,hml,hox⟩:∃ml:List UInt8,ml.length<=300/\OwnB w2 nB x ml:=by
    rcases hcase with⟨hok,hO⟩|⟨-,rfl⟩
    ·have h60:l.length<=60:=by unfold nC at hok;simp only[aH,dQ] at hok;exact hok.1
     exact⟨_,by unfold summed Aa;simp[I7,eo];omega,hnB▸hO⟩
    ·exact⟨[],by simp,Qw _ _⟩
   obtain⟨xa,xc,rfl⟩:=ownsRow_form hox;have hst2:=HST.out.to hE2;have b3:=hst2.ext.cell B3.out;have b4:=hst2.ext.cell B4.out;have hsz2:nB<=w2.heap.size:=by have:=hE2.size;omega
   have hsp:=HS.out.spoilt;have ew:=ah hox;have qa1:=ah hst2;have VO:=ah (H3.out.ext hst2.ext);have HE2:=ah hE2;obtain⟨z,hz⟩:∃z,(if nC l=true then(0:Int) else 4)=z:=⟨_,rfl⟩;rw[hz];clear hox hst2 hcase hE2 hz b0 b2;go_upto_region 24 with fail
   go_cut [103] (λc wx=>wx=w2/\c=.bool (decide (0<d.spoilt.length)&&!d.whole))
   case first=>
    by_cases hs0:0<d.spoilt.length
    ·have he:(decide (0<d.spoilt.length)&&!d.whole) = !d.whole:=by rw[aG hs0];rfl
     go_wp2_with fail
     go_meet
     exact⟨rfl,by rw[he]⟩
    ·have he:(decide (0<d.spoilt.length)&&!d.whole)=false:=by rw[aI hs0];rfl
     go_wp2_with fail
     go_meet
     exact⟨rfl,by rw[he]⟩
   case rest=>
    obtain⟨hwc,rfl⟩:=hcut;subst hwc;generalize (decide (0<d.spoilt.length)&&!d.whole)=cc;go_upto_if 103 with fail
    go_cut [17] (λv wx=>wx=wc/\∃l':List UInt8,l'.length<=300/\OwnB wx nB v l')
    case first=>
     cases cc
     ·go_wp2_with fail
      go_meet
      exact⟨rfl,ml,hml,ew.out⟩
     ·go_wp2_with fail
      go_meet
      exact⟨rfl,[],by simp,Qw _ _⟩
    case rest=>
     obtain⟨hwc,LD,pj,FI⟩:=hcut;obtain⟨kx,lZ,rfl⟩:=ownsRow_form FI;subst hwc;have Ip:=ah FI;clear FI ew;go_upto_if 110 with(at_builtin;go_must (refine D8 rfl _ _ 25 rfl nB 5 i0 (.int .u8 0) 1 1 underlying25 hi hz0 hz1 hz2 rfl (by omega) (.slice kx LD.length lZ) LD.length (LD.map dX) rfl Ip.out (.slice a3 d.spoilt.length c3) d.spoilt.length (d.spoilt.map dX) rfl VO.out (by simp) (EP _) (by unfold maxLen;omega) (by omega) hsz2 ?_);intro b10 c10 w10 kD jP nX;clear nX;obtain⟨u10,M_⟩:∃u,Value.slice b10 (LD.length+d.spoilt.length) c10=u:=⟨_,rfl⟩;rw[M_] at kD⊢;obtain⟨lst,pu,Oo⟩:∃lst:List UInt8,lst.length<=41000/\OwnB w10 nB u10 lst:=⟨LD++d.spoilt,by rw[aC];omega,by unfold OwnB;rw[bY,aC];exact kD⟩;have yx:=HST.out.to (Below.grown HE2.out jP HE2.out.size (λr hr=>by have:=(Ip.out.lt r hr);omega));have b5:=yx.ext.cell B5.out;have Ir:=ah Oo;have ou:=ah yx;clear Oo yx kD jP M_)
     go_cut [5] (λv wx=>v=.pointer (some ⟨a,0,none⟩)/\∃F7 E7,uq w0 a 61 F7 E7 wx)
     case first=>
      have hby:Held w10 F (λW=>Bytes W u10 lst):=(Held.ownB Ir.out λb hb hF=>by have:=(Ir.out.lt b hb).1;have:=HST.out.disk.low b hF;omega).mono λW hW=>OwnB.bytes hW;have jC:=Ug F a E d.dL.length I5 u10 lst w10 ou.out.disk ou.out.built (by omega) (by simp[I5]) hby (by omega) (Held.laid VW.out ou.out.ext ou.out.low);unfold o7 bC I5 at jC;have RJ:=ah jC;clear jC hby;go_wp2_with fail
      all_goals
       first
       | (refine RJ.out.mono ?_
          rintro e wz hfl;obtain rfl:=hfl.1;obtain⟨F7,E7,nU,-⟩:=ou.out.file hfl;have lX:=ah (nU.more (m:=61) (by omega));clear nU hfl;go_wp2_with fail
          go_meet
          exact⟨rfl,F7,E7,lX.out⟩)
       | (go_meet
          exact⟨rfl,F,E,ou.out.more (by omega)⟩)
     case rest=>
      obtain⟨rfl,F7,E7,nU⟩:=hcut;have lX:=ah nU;clear b5 b4 b3 nU Ir ou VO Ip HI HST HE2 dC;go_wp2_with fail
      go_loopw [19] (λi wq=>∃(k2:Nat)(F:Nat->Prop)(E:D),k2<=d.others.length/\i=.int .i64 k2/\uq w0 a (61+k2) F E wq) (λi _=>d.others.length - (intOf i).toNat)
      case atStart=>exact⟨0,F7,E7,by omega,rfl,lX.out⟩
      case round=>
       obtain⟨k2,F,E,hk2,rfl,hST⟩:=hrel;have b1:=hST.ext.cell B1.out;have HST:=ah hST;clear hST;have hot:=HS.out.others;by_cases hlt2:k2<d.others.length
       ·obtain⟨s,hs⟩:∃s,d.others[k2]?=some s:=⟨_,au hlt2⟩;obtain⟨hn1,hn2⟩:=HS.out.other s (aJ hs);obtain⟨b,rfl,u2,s0,s1,s2,hby⟩:=H1.out.at hs;replace s0:=HST.out.ext.cell s0;replace s1:=HST.out.ext.cell s1;replace s2:=HST.out.ext.cell s2;obtain⟨ba,bc,rfl,hbc,hbc',-⟩:=hby.open;have oc:Held w0 (λ_=>False) (λW=>Bytes W (.slice ba s.bytes.length bc) s.bytes):=Held.bytes hby (λ_ _ _ _ h=>h);have i8:=ah oc;clear oc hby hs;by_cases hh:0<s.hint
        ·have hid:=uR s.hint wr;have ga:=ah hid;clear hid;go_wp2_with fail
         refine ga.out.mono ?_;rintro e w2 ⟨y,rfl,hy1,hy2,hw2⟩;rw[hw2];clear hw2 w2;have hnm:=cN GY y wr (by simp[GY]) hy2;have vC:=ah hnm;clear hnm;unfold bC GY at vC;go_wp2_with fail
         refine vC.out.mono ?_;rintro e w6 ⟨rfl,ni⟩;have lF:=HST.out.to ni;have d1:=ni.cell b1;have t2:=ni.cell s2;have jC:=Ug F a E (61+k2) (F6 GY y) _ s.bytes w6 lF.disk lF.built (by omega) (by rw[ai];simp[GY]) (i8.out.lift lF.ext lF.low) (by omega) (Held.laid VW.out lF.ext lF.low);have xG:=ah jC;have Ij:=ah lF;clear jC lF ni b1 s0 s1 s2;unfold o7 bC GY at xG;go_wp2_with fail
         refine xG.out.mono ?_;rintro e w7 hfl;obtain rfl:=hfl.1;obtain⟨F8,E8,yw,-⟩:=Ij.out.file hfl;have Ii:=ah yw;clear yw hfl;go_wp2_with fail
         go_roundw
         case rel=>exact⟨k2+1,F8,E8,by omega,by go_num,Ii.out⟩
         case measure=>simp[intOf];omega
        ·have jC:=Ug F a E (61+k2) s.name.data.toList _ s.bytes wr HST.out.disk HST.out.built (by omega) (by have:=J6 s.name;omega) (i8.out.lift HST.out.ext HST.out.low) (by omega) (Held.laid VW.out HST.out.ext HST.out.low);rw[b72] at jC;have xG:=ah jC;clear jC;unfold o7 at xG;go_wp2_with fail
         refine xG.out.mono ?_;rintro e w7 hfl;obtain rfl:=hfl.1;obtain⟨F8,E8,yw,-⟩:=HST.out.file hfl;have Ii:=ah yw;clear yw hfl;go_wp2_with fail
         go_roundw
         case rel=>exact⟨k2+1,F8,E8,by omega,by go_num,Ii.out⟩
         case measure=>simp[intOf];omega
       ·obtain rfl:k2=d.others.length:=by omega
        have hsy:=b3q F a E wr HST.out.disk (by have:=HST.out.built.vT;omega) (λl hl=>⟨(HST.out.built.pJ l hl).1,λm hm=>by have:=(HST.out.built.pJ l hl).2 m hm;unfold maxLen;omega⟩);obtain⟨E',hE',hsafe,yA,jU,yB⟩:=HST.out.built.gK;rw[hE'] at hsy;have Ru:=ah hsy;clear hsy;unfold o7 at Ru;go_wp2_with fail
        refine Ru.out.mono ?_;rintro e w7 ⟨F8,v8,rfl,-,pN,Yu,-⟩;have hfin:zE w (.returned (o7 a)) w7:=by
         refine⟨a,F8,E',rfl,pN,hsafe,λx hx=>?_,?_,λp hp=>?_,?_,λb hb=>?_⟩
         ·rw[yB];rw[jU] at hx;exact HST.out.built.bound x hx
         ·rw[yA];have:=HST.out.built.len;omega
         ·rw[yA] at hp;exact HST.out.built.names p hp
         ·exact VZ.out.trans (HST.out.ext.trans' (Yu.below HST.out.low HST.out.ext.size))
         ·have h1:=VZ.out.size;have h2:=HST.out.ext.size;rcases Yu.grow b hb with h|h
          ·have:=HST.out.low b h;omega
          ·omega
        have Du:=ah hfin;clear hfin pN Yu;unfold o7 at Du;go_wp2;go_ret;exact Du.out
end
end Go.Proofs.YtgpbhjjajpbeeaaGreatDoor
