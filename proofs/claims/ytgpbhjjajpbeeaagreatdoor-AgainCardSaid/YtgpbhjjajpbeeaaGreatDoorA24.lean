/- A part of what the last file proves. -/
import Derived.Test.YtgpbhjjajpbeeaaGreatDoorA23
import Derived.OwnWalk
set_option linter.all false
set_option maxRecDepth 100000
set_option maxHeartbeats 6400000
open Go.Proofs.Tryz
namespace Go.Proofs.YtgpbhjjajpbeeaaGreatDoor
open Go.RowKit Go.Lib Go.Maps Dk Pl
variable{W:aB}{B c j k n:Nat}{C d:fC}{v:aX}{e:bT}{l:dV}{R f:Option Addr}
theorem c8H(r q:Rec)(w:aB):(binOp .neq 111 (.agg #[.int .u64 r.seq,.string ⟨r.key.toArray⟩,.string ⟨r.val.toArray⟩,.bool r.del]) (.agg #[.int .u64 q.seq,.string ⟨q.key.toArray⟩,.string ⟨q.val.toArray⟩,.bool q.del])).run prog w=.ok (.bool (!VW r q)) w:=by
 have key:(Op.equalIn 10000 111 (.agg #[.int .u64 r.seq,.string ⟨r.key.toArray⟩,.string ⟨r.val.toArray⟩,.bool r.del]) (.agg #[.int .u64 q.seq,.string ⟨q.key.toArray⟩,.string ⟨q.val.toArray⟩,.bool q.del])).run prog w=.ok (VW r q) w:=by
  rw[show(10000:Nat)=9999+1 from rfl,run_equalIn_struct w 9999 111 _ _ aW aW];simp only[Program.fieldsOf,underlying111];go_simp
  unfold VW;by_cases h1:r.seq=q.seq<;>by_cases h2:r.key=q.key<;>by_cases h3:r.val=q.val<;>by_cases h4:r.del=q.del<;>simp[h1,h2,h3,h4]<;>omega
 simp[binOp,Op.equal,Op.maxDepth,key]
structure Ez(w:World)(F:Nat->Prop)(a sb gen:Nat)(D:D)(ids:List Int)(bss:List (List UInt8)):Prop where
 disk:o7 w F a D
 calm:D.Calm
 fit:D.Fit
 st:Held w F (λW=>Df W sb a gen ids bss)
 Bv:zk ids
 P:Held w F S9
 La:Held w F Laid
 op:(G9 D.files).1=some (gen,ids,bss)
 small:∀i,(bss.getD i []).length<=1099511627776
def Ez.ext{w w':aB}{F:tyP}{a sb gen:Nat}{D:D}{ids:fC}{bss:fJ}(h:Ez w F a sb gen D ids bss)(hE:Ext w w'):Ez w' F a sb gen D ids bss:=
 ⟨h.disk.ext hE,h.calm,h.fit,h.st.ext hE,h.Bv,h.P.ext hE,h.La.ext hE,h.op,h.small⟩
def LK(bss:fJ)(key:Nm)(w:aB)(e:Ending)(w':aB):Prop:=
 e=.returned (.tuple #[bJ (valOf (mQ (F6 bss)) key).1,.bool (valOf (mQ (F6 bss)) key).2,.nilIface])/\Ext w w'
theorem zd{F:tyP}{a sb gen:Nat}{D:D}{ids:fC}{bss:fJ}{w:aB}(h:Ez w F a sb gen D ids bss){key:Nm}(hk:key.length<=maxLen):
 Calls prog 22 #[l9 sb,bJ key] w (LK bss key w):=by
 obtain⟨hn0,kQ⟩:=Z8 h.op;obtain⟨ia,ic,Cb,r,vv,hb,-,hS,hM,hbl⟩:=h.st.get;have hlk:=hM.Bj X0 U0 underlying136 (AG w) (vI hk);have hml:=vo hn0 key;have d0:=(hb.cell 0).trans (show _=some (l9 a) from rfl);have d3:=(hb.cell 3).trans (show _=some (Value.slice (some ⟨Cb,0,none⟩) ids.length ids.length) from rfl);have d4:=(hb.cell 4).trans (show _=some (Value.map (some r)) from rfl);have H:=ah h;have HS:=ah hS;have ug:=ah kQ;clear h hb hS hM kQ
 cases hlook:A7 (O9 bss ids.length) key with
 | none=>
  rw[hlook] at hlk hml;have hg:valOf (mQ (F6 bss)) key=([],false):=by unfold valOf;rw[hml];rfl
  have uF:(Instr.lookup 136 (.map (some r)) (.string ⟨key.toArray⟩) true).run prog w=.ok (.tuple #[.agg #[.int .i64 0,.int .i64 0,.int .i64 0,.int .u64 0,.string ⟨#[]⟩,.string ⟨#[]⟩,.bool false],.bool false]) w:=hlk;unfold LK;rw[hg];clear hlk hg hlook hml;unfold l9 bJ at *;go_enter func22,ntmps22
  go_wp2_with fail
  go_ret3
  exact⟨rfl,(dh w).new _⟩
 | some f=>
  rw[hlook] at hlk hml;obtain⟨hfn,hfm,hfk⟩:=ZK hlook;have uF:(Instr.lookup 136 (.map (some r)) (.string ⟨key.toArray⟩) true).run prog w=.ok (.tuple #[.agg #[.int .i64 f.1,.int .i64 f.2.1,.int .i64 f.2.2.size,.int .u64 f.2.2.seq,.string ⟨f.2.2.key.toArray⟩,.string ⟨f.2.2.val.toArray⟩,.bool f.2.2.del],.bool true]) w:=hlk;obtain⟨w1,hw1⟩:∃w1,w.alloc (.cells #[.int .i64 f.1,.int .i64 f.2.1,.int .i64 f.2.2.size,.int .u64 f.2.2.seq,.string ⟨f.2.2.key.toArray⟩,.string ⟨f.2.2.val.toArray⟩,.bool f.2.2.del] 160)=w1:=⟨_,rfl⟩;have hE1:Ext w w1:=hw1▸(dh w).new _;have hx:o6 w1 w 160 #[.int .i64 f.1,.int .i64 f.2.1,.int .i64 f.2.2.size,.int .u64 f.2.2.seq,.string ⟨f.2.2.key.toArray⟩,.string ⟨f.2.2.val.toArray⟩,.bool f.2.2.del]:=hw1▸jR _ _ rfl;have x0:=(hx.cell 0).trans (show _=some (Value.int .i64 f.1) from rfl);have x1:=(hx.cell 1).trans (show _=some (Value.int .i64 f.2.1) from rfl);have x2:=(hx.cell 2).trans (show _=some (Value.int .i64 f.2.2.size) from rfl);have x3:=(hx.cell 3).trans (show _=some (Value.int .u64 f.2.2.seq) from rfl);have x4:=(hx.cell 4).trans (show _=some (Value.string ⟨f.2.2.key.toArray⟩) from rfl);have x5:=(hx.cell 5).trans (show _=some (Value.string ⟨f.2.2.val.toArray⟩) from rfl);have x6:=(hx.cell 6).trans (show _=some (Value.bool f.2.2.del) from rfl);have lQ:=ah hE1;have HW1:=ah hw1;have qo:=ah hfn;have HFM:=ah hfm;clear hlk hx hE1 hw1 hfn hfm hfk hlook
  cases hdel:f.2.2.del with
  | true=>
   rw[hdel] at x6 uF HW1;have hg:valOf (mQ (F6 bss)) key=([],false):=by unfold valOf;rw[hml,fK,if_pos hdel]
   unfold LK;rw[hg];clear hg hdel hml;unfold l9 bJ at *;go_enter func22,ntmps22
   go_wp2_with fail
   go_ret3
   exact⟨rfl,by rw[HW1.out];exact lQ.out⟩
  | false=>
   rw[hdel] at x6 uF HW1;obtain⟨s0,-⟩:=HS.out f.1 qo.out;have hil:=H.out.Bv.1;have hid:=H.out.Bv.2 (ids.getD f.1 0) (by rw[aT,au qo.out];exact bQ _);have hfl:=ug.out f.1 qo.out;obtain⟨id,Uf⟩:∃id:Nat,ids.getD f.1 0=(id:Int):=⟨(ids.getD f.1 0).toNat,aj⟩;rw[Uf] at s0 hid hfl;rw[fQ] at hfl;have gP:=lQ.out.cell s0;rw[jy] at gP;have bu:=lQ.out.cell d0;have pP:=lQ.out.cell d3;have hg:valOf (mQ (F6 bss)) key=(f.2.2.val,true):=by unfold valOf;rw[hml,fK,if_neg (by rw[hdel];decide)]
   have hin:=c3w HFM.out;have hdc:=tt (Y3 HFM.out);have hb1:=H.out.small f.1;generalize bss.getD f.1 []=L at hfl hin hdc hb1;obtain⟨n,hn⟩:∃n,ids.length=n:=⟨_,rfl⟩;have hfi:(f.1:Int)<(n:Int):=by have:=qo.out;omega
   rw[hn] at pP hil;have HDL:=ah hdel;have HDC:=ah hdc;unfold LK;rw[hg];clear hg hml hn hn0 Uf s0 hdel hdc;unfold l9 bJ at *;go_enter func22,ntmps22
   go_upto_region 4 with fail
   rw[HW1.out];go_cut [9] (λv wx=>v=.string ⟨(y7 D6 id).toArray⟩/\Ext w1 wx)
   case first=>
    have ng:Ext w1 w1.drew:=Below.drew (dh w1);have hPd:S9 w1.drew:=(H.out.P.ext (lQ.out.trans ng):Held w1.drew F S9).get;have y0:=ng.cell x0;have y1:=ng.cell pP;have y2:=ng.cell gP;have hkn:=Qs D6 id w1.drew dA aj hPd;have uS:=ah ng;have EF:=ah hkn;clear ng hkn;unfold bJ at EF;unfold D6 at EF;go_region_with (go_at_call 56;refine EF.out.mono ?_;rintro e wq ⟨rfl,hE⟩)
    all_goals
     go_wp2_with fail
     go_meet
     exact⟨rfl,uS.out.trans hE⟩
   case rest=>
    obtain⟨rfl,oz⟩:=hcut;obtain⟨wo,hwo⟩:∃wo,wo=wc:=⟨_,rfl⟩;rw[<-hwo] at oz⊢;clear hwo wc;have Vd:=lQ.out.trans oz;have c0:=oz.cell x0;have c1:=oz.cell x1;have c2:=oz.cell x2;have c3:=oz.cell x3;have c4:=oz.cell x4;have c5:=oz.cell x5;have c6:=oz.cell x6;have cd:=oz.cell bu;have hnl:(y7 D6 id).length<=maxLen:=by
     have:(y7 D6 id).length=11:=by simp[y7,D6]
     rw[this];decide
    obtain⟨nm,hnm⟩:∃nm,y7 D6 id=nm:=⟨_,rfl⟩;rw[hnm] at hnl hfl⊢;have NI:=ah Vd;have EG:=ah hfl;clear oz Vd x0 x1 x2 x3 x4 x5 x6 d0 bu d3 pP d4 gP uF hnm HW1 lQ hfl;go_upto_region 5 with fail
    go_cut [10,11] (λu v wx=>v=.nilIface/\Bytes wx u ((L.drop f.2.1).take f.2.2.size)/\Ext wo wx)
    case first=>
     have ng:Ext wo wo.drew:=Below.drew (dh wo);have y1:=ng.cell c1;have y2:=ng.cell c2;have yd:=ng.cell cd;have hra:=b5Q (i:=f.2.1) (m:=f.2.2.size) (H.out.ext (NI.out.trans ng)).disk H.out.calm hnl EG.out hin aj;have JE:=ah hra;have uS:=ah ng;clear hra ng;unfold l9 bJ at JE;go_region_with (go_at_call 68;refine JE.out.mono ?_;rintro e wq ⟨u,rfl,q1,q2⟩)
     all_goals
      go_wp2_with fail
      go_meet
      exact⟨rfl,q1,uS.out.trans q2⟩
    case rest=>
     obtain⟨rfl,hb,hE2⟩:=hcut;have z3:=hE2.cell c3;have z4:=hE2.cell c4;have z5:=hE2.cell c5;have z6:=hE2.cell c6;have hdec:=decode_any u10 _ wc hb;rw[HDC.out] at hdec;have NJ:=ah hdec;have jM:=NI.out.trans hE2;have qO:=ah jM;clear hdec hb c0 c1 c2 c3 c4 c5 c6 cd hE2 jM NI;go_wp2_with fail
     refine NJ.out.mono ?_;rintro e w3 ⟨rfl,lH⟩;have hne:=λwx=>c8H f.2.2 f.2.2 wx;rw[HDL.out,b7Z] at hne;have O_:=lH.new (.cells #[.int .u64 f.2.2.seq,.string ⟨f.2.2.key.toArray⟩,.string ⟨f.2.2.val.toArray⟩,.bool false] 111);have y3:=O_.cell z3;have y4:=O_.cell z4;have y5:=O_.cell z5;have y6:=O_.cell z6;have rZ:=ah (qO.out.trans O_);clear O_ z3 z4 z5 z6 lH;unfold qw;dsimp only;rw[HDL.out];go_wp2_with fail
     go_ret3
     exact⟨rfl,rZ.out⟩
section
attribute [local go_sem] Oper.semAt_some
def Keep(c:Nat)(W W':aB):Prop:=Below c W W'/\∀(b t:Nat)(a:dU),t≠243->t≠246->W.heap[b]?=some (Obj.cells a t (0,0))->W'.heap[b]?=some (Obj.cells a t (0,0))
def c6T{a:Nat}{A B C:aB}(h:Keep a A B)(k:Keep a B C):Keep a A C:=⟨h.1.trans k.1,λb t c n m e=>k.2 b t c n m<|h.2 b t c n m e⟩
theorem c6U{a:Nat}{w:aB}(i:a<=w)(W:aB)(l:Nat)(o d:Obj)(f:w<=l)(h:W.heap[l]?=some o)(c:o.isCells=false)(j:o.isWalk=false):Keep a W (W.putObj l d):=
 ⟨belowK_b i W l o d f h c j,λb t k _ _ e=>(World.putObj_heap_other λg=>by subst g;rw[h] at e;cases e;cases c).trans e⟩
def sB(p:Nm×Nm):Array Value:=#[encStr p.1,encStr p.2]
theorem all_in(F:Fence)(n:Nat)(c:F.fn 167)(a:F.round=none)(sb:Nat)(w:aB):
 CallsIn F n prog 167 #[l9 sb] w λe w'=>e=.returned (.func (.func 191) #[] #[.pointer (some w)])/\w'=w.alloc (.cells #[l9 sb] 32):=by
 refine callsIn_of_wp func167 rfl c ?_ a;gi_wp2
 go_ret;trivial
theorem c9R{Pe:tyP}{a sb gen:Nat}{D:D}{ids:fC}{bss:fJ}{w0 w:aB}(h:Ez w0 Pe a sb gen D ids bss)(hE:Ext w0 w)(n:Nat)(hn:5<=n){Bm:Nat}(hBm:Bm<w)(hb:Boxed w Bm 32 (l9 sb))
 (hL:(O9 bss ids.length).length*16<=140737488355328)(hkl:∀p∈O9 bss ids.length,p.1.length<=maxLen):
 SeqStopsK Fence.wide n prog 191 #[.pointer (some Bm)] sB (Keep w0) (λys=>ys=mQ (F6 bss)) (λpre=>pre <+: mQ (F6 bss)) (mQ (F6 bss)).length w:=λl J Jx W hW hJ _ hY h0=>by
 have hro:Fence.wide.round=none:=rfl;have h1:1<=n:=aj
 have f131:Fence.wide.fn 131:=trivial;have f22:Fence.wide.fn 22:=trivial;have Pg:Ext w0 W:=hE.trans hW;have hbW:Boxed W Bm 32 (l9 sb):=(hW.block Bm hBm).trans hb;have hbm:=hbW.cell;obtain⟨hn0,-⟩:=Z8 h.op;have hst:=(h.ext Pg).st.get;obtain⟨ia,ic,Cb,r,vv,hbx,-,-,hM,hbl⟩:=hst;have d4:=(hbx.cell 4).trans (show _=some (Value.map (some r)) from rfl);have hkeys:=keys_in (n - 1) aj d4 hM hL hkl;have hks:=QR hn0;rw[hks] at hkeys;obtain⟨M,KQ⟩:∃M,mQ (F6 bss)=M:=⟨_,rfl⟩;have hsort:M.Pairwise (λa b=>a.1<b.1):=KQ▸MP _;have OX:M.length*16<=140737488355328:=by
  have e:=congrArg List.length hks;rw[KQ] at e;simp only[List.length_mergeSort,bV] at e;have:(CY (O9 bss ids.length)).length<=(O9 bss ids.length).length:=by unfold CY;rw[bV];exact iC _ _
  omega
 rw[KQ] at hkeys hY⊢;have hkm:∀p∈M,p.1.length<=maxLen:=λp hp=>by obtain⟨f,hf,-⟩:=Xa hn0 p (KQ▸hp);exact hkl _ (Y4 hf)
 have hval:∀p∈M,valOf M p.1=(p.2,true):=λp hp=>by obtain⟨j,hj⟩:=gX hp;unfold valOf;rw[Dy ((eu.2 hsort).imp (R:=λa b:Nm=>a<b) λh e=>by rw[e] at h;exact absurd h pV) hj]
 have zH:=ah h;have HK:=ah hkeys;clear h hkeys hbx hM d4 hks hsort;unfold l9 at hbm HK;refine callsIn_of_wp func191 rfl trivial ?_ hro;simp only[ntmps191,lM,dK,jT,Nat.reduceAdd,Nat.reduceSub,iJ,iI,jA,iO,eF,List.cons_append];gi_wp2_with (gi_at_call 131;refine HK.out.mono ?_;rintro e w2 ⟨v,rfl,hrow,hE2⟩;obtain⟨va,vc,rfl⟩:=ownsRow_form hrow)
 have hb2:Boxed w2 Bm 32 (.pointer (some sb)):=(hE2.block Bm hbW.lt).trans hbW;have hlm:(M.map (·.1)).length=M.length:=bV _;have pD:Ext w0 w2:=Pg.trans hE2;have hJ2:J [] w2:=hJ [] W w2 none h0 ⟨hE2.os,hE2.tape,hE2.output,hE2.size,λk hk _=>hE2.block k hk⟩ (λr e=>by cases e);rw[hlm] at hrow;have hblk:M.length=0\/∃g cur,va=some ⟨g,0,none⟩/\w2.heap[g]?=some (Obj.cells cur 9 (0,0))/\∀k,k<M.length->cur[k]?=(M.map λp=>encStr p.1)[k]?:=by
  rcases hrow.2 with⟨_,h0'⟩|⟨g,cap,cur,hv,_,hb',h1',h2',h3',h4'⟩
  ·exact .inl h0'
  ·injection hv with hv1 hv2 hv3;refine .inr ⟨g,cur,hv1,hb',λk hk=>?_⟩;have e:=congrArg (λl:List Value=>l[k]?) h4';simp only[tq,pW hk,g_,eH] at e;exact e
 have HB:=ah hblk;have HV:=ah hval;have fq:=ah hkm;clear hrow hblk hval hkm HK hE2;gi_loopw [11] (λi wr=>∃k:Nat,i=.int .i64 k/\k<=M.length/\J (M.take k) wr/\Ext w0 wr/\∀(b t:Nat)(cur:dU),t≠243->t≠246->w2.heap[b]?=some (Obj.cells cur t (0,0))->wr.heap[b]?=some (Obj.cells cur t (0,0))) (λi _=>M.length - (intOf i).toNat)
 case atStart=>exact⟨0,rfl,aj,hJ2,pD,λ_ _ _ _ _ e=>e⟩
 case round=>
  obtain⟨k,rfl,hk,pA,hEr,hrows⟩:=hrel;by_cases hlt:k<M.length
  ·obtain⟨p,hp⟩:∃p,M[k]?=some p:=⟨_,au hlt⟩;have hpm:=aH hp;rcases HB.out with h|⟨g,cur,rfl,hgb,hcur⟩
   ·omega
   have hgr:=hrows g _ cur dA dA hgb;have hbr:=Boxed.cell (hrows Bm 32 _ dA dA hb2);have hck:wr.cell? ⟨g,k,none⟩=some (encStr p.1):=by have:=hcur k hlt;rw[dF,hp] at this;simpa [World.cell?,hgr] using this
   have hget:=zd (zH.out.ext hEr) (key:=p.1) (fq.out p hpm);unfold LK at hget;rw[KQ,HV.out p hpm] at hget;have hget:Calls prog 22 #[.pointer (some sb),encStr p.1] wr λe w'=>e=.returned (.tuple #[encStr p.2,.bool true,.nilIface])/\Ext wr w':=hget;have htk:M.take (k+1)=M.take k++[p]:=by rw[cO,hp];rfl
   have HG:=ah hget;have HR:=ah hrows;have QW:=ah hEr;have HT:=ah htk;have hlI:(M.length:Int)<=8796093022208:=aj
   clear hget hrows hgb hgr hcur hEr htk;gi_wp2_with (gi_at_call 22;refine(callsIn_wide.2 HG.out).mono ?_;rintro e w3 ⟨rfl,jM⟩;have hJ3:J (M.take k) w3:=hJ _ wr w3 none pA ⟨jM.os,jM.tape,jM.output,jM.size,λi hi _=>jM.block i hi⟩ (λr e=>by cases e);obtain⟨fn,tmps,assign,body,hy,hRd⟩:=hY (M.take k) p w3 hJ3 Ea;unfold sB at hy;have qO:=ah jM;clear jM)
   refine hRd.mono ?_;rintro e w4 (⟨rfl,hJ4,hk4⟩|⟨rfl,pe⟩)
   ·have Yd:=ah hk4;clear hk4;gi_wp2
    go_roundw
    case rel=>exact⟨k+1,iE,aj,by rw[HT.out];exact hJ4,Below.trans (QW.out.trans qO.out) Yd.out.1,λb t cur n m e=>Yd.out.2 b t cur n m ((qO.out.block b (by exact(bn.1 (HR.out b t cur n m e)).1)).trans (HR.out b t cur n m e))⟩
    case measure=>first|omega|(simp[intOf];omega)|(go_num;omega)
   ·gi_wp2
    refine bodyPost_ret (results_none rfl _ _ _) rfl ?_;exact⟨⟨_,rfl⟩,.inr ⟨M.take k++[p],by rw[<-HT.out];exact List.take_prefix _ _,pe⟩⟩
  ·obtain rfl:k=M.length:=aj
   rw[bK] at pA;gi_wp2
   go_end0
   exact⟨⟨_,rfl⟩,.inl ⟨M,rfl,pA⟩⟩
end
section
attribute [local go_sem] Oper.semAt_some
theorem b1V{h:aB}{a:Nat}{v':aX}{xs:jl}{i:Obj}(j:W.ownsRow a 246 2 v k xs)(o:Boxed h B 243 v)(f:(W.alloc i).grownBy h v.ownBlock)(x:Below a W (h.setCell B v')):Keep a W (h.setCell B v'):=
 ⟨x,λb t w n q e=>by
  have s:=(bn.1 e).1;have l:=(f.block b iw (by
   obtain⟨rfl,_⟩|⟨g,u,c,rfl,_,m,_⟩:=j.2
   simp[Value.ownBlock]
   intro p;have d:=by simpa [Value.ownBlock] using p
   grind)).trans<|(Below.heap_alloc W i b s).trans e;refine((grownBy_setCell' h B v').block b (bn.1 l).1 λp=>?_).trans l;have d:b=B:=fU
  rw[d,o] at l;grind⟩
theorem cell_two_new(w:aB)(x y:aX)(t:bT):∀j u,[x,y][j]?=some u->(w.alloc (.cells #[x,y] t)).cell? ((w:Addr).add j)=some u:=by
 intro j u a
 match j,a with
 | 0,a=>simp at a;subst a;simp[Addr.add]
 | 1,a=>simp at a;subst a;simp[Addr.add]
def Pv(N:Int)(M:List (Nm×Nm)):List (Nm×Nm):=if N<0 then M else M.take N.toNat
def b7V:(prog.info? 246).map (λi=>(i.zero,i.size,i.bytes))=some (some (.agg #[.string ⟨#[]⟩,.string ⟨#[]⟩]),2,32):=rfl
theorem collect_in(n:Nat)(hn:9<=n){Pe:tyP}{a sb gen:Nat}{D:D}{bss:fJ}{w:aB}(h:Ez w Pe a sb gen D C bss)(hL:(O9 bss C.length).length*16<=140737488355328)(OX:(mQ (F6 bss)).length*32<=140737488355328)
 (Q:∀p∈O9 bss C.length,p.1.length<=maxLen){N:Int}(hN:-9223372036854775808<=N/\N<=9223372036854775807)(hN0:N≠0):
 CallsIn Fence.wide n prog 130 #[l9 sb,.int .i64 N] w λe w'=>∃v,e=.returned v/\w'.ownsRow w 246 2 v (Pv N (mQ (F6 bss))).length ((Pv N (mQ (F6 bss))).flatMap F9)/\Ext w w':=by
 have h1:1<=n:=aj
 have r:Fence.wide.round=none:=rfl;have S:Fence.wide.fn 167:=trivial;have U:Fence.wide.fn 191:=trivial;obtain⟨i0,hi,hz0,hz1,hz2⟩:=info_parts b7V;have ai:=λ(o:aB)(Bm:Nat)(hE:Ext w o)(hBm:Bm<o)(hb:Boxed o Bm 32 (l9 sb))=>c9R h hE (n - 1) aj hBm hb hL Q;clear h hL Q;obtain⟨M,KQ⟩:∃M,mQ (F6 bss)=M:=⟨_,rfl⟩;rw[KQ] at ai OX⊢;unfold l9 at *;refine callsIn_of_wp_marks func130 rfl trivial ?_ r;simp only[ntmps130,lM,dK,jT,Nat.reduceAdd,Nat.reduceSub,iJ,iI,jA,iO,eF,List.cons_append];have hEq:(N==0)=false:=by simpa using hN0
 gi_wp2_with (gi_at_call 167;refine(all_in Fence.wide (n - 1) S r _ _).mono ?_;rintro e w' ⟨rfl,rfl⟩)
 unfold l9;have bN:=Boxed.new w 3<|.int .i64 N;have bL:=Boxed.new (w.alloc<|.cells #[.int .i64 N] 3) 243<|.slice none 0 0;have bM:=Boxed.new ((w.alloc<|.cells #[.int .i64 N] 3).alloc<|.cells #[.slice none 0 0] 243) 32 (.pointer<|some ⟨sb,0,none⟩);rw[World.size_alloc] at bL;rw[World.size_alloc,World.size_alloc] at bM;have jM:Ext w (((w.alloc<|.cells #[.int .i64 N] 3).alloc<|.cells #[.slice none 0 0] 243).alloc<|.cells #[.pointer (some sb)] 32):=(((dh w).new _).new _).new _;have ll:=(bN.alloc<|.cells #[.slice none 0 0] 243).alloc<|.cells #[.pointer (some sb)] 32;have lm:=bL.alloc<|.cells #[.pointer (some sb)] 32;obtain⟨o,u⟩:∃o,((w.alloc<|.cells #[.int .i64 N] 3).alloc<|.cells #[.slice none 0 0] 243).alloc (.cells #[.pointer (some sb)] 32)=o:=⟨_,rfl⟩;have hs3:o.heap.size=w+1+1+1:=by rw[<-u];simp
 rw[u] at bM jM ll lm⊢;clear bN bL u;refine wpIn_rangeFunc_ownG r h1 (gf:=191) (lb:=#[.pointer (some ⟨w+1+1,0,none⟩)]) rfl U (enters_of func191 aW rfl)
  (ai o (w+1+1) jM aj bM) c6T (c6U<|aj) (Below.refl _ _) (λ_=>rfl)
  (λb W=>((∃v,Boxed W (w+1) 243 v/\W.ownsRow w 246 2 v b.length (b.flatMap F9)/\(N<0\/(b.length:Int)<N))/\Boxed W w 3 (.int .i64 N))/\Below w w W)
  (λc b W=>((∃v,Boxed W (w+1) 243 v/\W.ownsRow w 246 2 v b.length (b.flatMap F9)/\(c=.exit 0/\(b.length:Int)=N))/\Boxed W w 3 (.int .i64 N))/\Below w w W)
  (OwnFrom.and (Own.from (λs A B j T H O=>⟨holdsRow_own w (w+1) 243 246 2 (λb:List (Nm×Nm)=>b.length) (λb=>b.flatMap F9) (λb _=>N<0\/(b.length:Int)<N) s A B j T.1 H O,boxed_own w 3 (λ_:List (Nm×Nm)=>.int .i64 N) s A B j T.2 H O⟩) _) (ownFrom_below (ak _)<|aj))
  (λc=>OwnFrom.and (Own.from (λs A B j T H O=>⟨holdsRow_own w (w+1) 243 246 2 (λb:List (Nm×Nm)=>b.length) (λb=>b.flatMap F9) (λb _=>c=.exit 0/\(b.length:Int)=N) s A B j T.1 H O,boxed_own w 3 (λ_:List (Nm×Nm)=>.int .i64 N) s A B j T.2 H O⟩) _) (ownFrom_below (ak _)<|aj))
  ⟨⟨⟨_,lm,World.ownsRow_nil _ _ _ _,iw⟩,ll⟩,jM⟩
  (λx=>{tmps:=#[.pointer (some sb),.int .i64 N,undef,.pointer<|some w,.slice none 0 0,.pointer<|some (w+1:Nat),encStr x.1,encStr x.2,.int .i64 N,.bool false,undef,.pointer<|some sb,.func (.func 191) #[] #[.pointer (some ⟨w+1+1,0,none⟩)],encStr x.1,encStr x.2,undef,undef,undef,undef,undef,undef,undef,undef,undef,undef,undef],defers:=[]}) ?assign ?body ?done ?stop
 case assign=>
  intro l x W K m;unfold sB;gi_wp2
  exact m
 case body=>
  rintro l b x W ⟨⟨⟨v,G,d,i⟩,R⟩,t⟩ hlt;have hc:=G.cell;have hcn:=R.cell;have hsz:=t.size;gi_wp2_with (gi_at_builtin;refine wpListIn_append_own _ rfl _ _ 243 rfl w 246 i0 (.agg #[.string ⟨#[]⟩,.string ⟨#[]⟩]) 2 32 underlying243 hi hz0 hz1 hz2 rfl dA _ _ _ rfl (d.alloc _) W 1 1 [encStr x.1,encStr x.2] rfl rfl (cell_two_new _ _ _ _) qV lJ aj iw ?_;intro v' w1' g f _;obtain⟨g',J,rfl⟩:=ownsRow_succ g;obtain⟨y,q,I,V,E⟩:=G.appended dA d hsz aj g f;have hc1:=y.cell;have hf1:=y.frozen;have hc2:=q.cell;have F:=b1V d y f E;have z:Boxed _ w 3 (.int .i64 N):=F.2 _ 3 _ dA dA R;have qd2:=z.cell;have AO:=ah F;have P:=ah I;clear F I f g)
  ·rename_i hx;have hx':(b.length:Int)+1=N:=by simpa using hx
   exact⟨V.from _,⟨⟨_,q,by simpa [F9] using P.out,rfl,by rw[aC,jZ];omega⟩,z⟩,t.trans E⟩
  ·rename_i hx;have hx':¬(b.length:Int)+1=N:=by simpa using hx
   exact⟨V.from _,AO.out,⟨⟨_,q,by simpa [F9] using P.out,by rw[aC,jZ];omega⟩,z⟩,t.trans E⟩
 case done=>
  rintro D ys W hD rfl ⟨⟨⟨v,G,d,i⟩,-⟩,t⟩ m;have hc:=G.cell;gi_wp2
  refine⟨aZ,.inl ⟨_,_,rfl,run_takeDeferred m,?_⟩⟩;have k:Pv N ys=ys:=by
   unfold Pv;split
   ·rfl
   ·rw[bU aj]
  rw[k];exact⟨_,results_tmp rfl _ _ _,v,rfl,ownsRow_putObj d _ m rfl,t.trans<|belowK_b (w:=w) (ak _) W D _ _ aj m rfl rfl⟩
 case stop=>
  rintro D c b W hD L ⟨⟨⟨v,G,d,rfl,i⟩,-⟩,t⟩ m;have hc:=G.cell;gi_wp2
  refine⟨aZ,.inl ⟨_,_,rfl,run_takeDeferred m,?_⟩⟩;have k:Pv N M=b:=by unfold Pv;rw[if_neg aj,<-i,fQ];exact(List.prefix_iff_eq_take.1 L).symm
  rw[k];exact⟨_,results_tmp rfl _ _ _,v,rfl,ownsRow_putObj d _ m rfl,t.trans<|belowK_b (w:=w) (ak _) W D _ _ aj m rfl rfl⟩
end
def WM(p:Int×Value×Nat):List Value:=[.int .i64 p.1,p.2.1,.int .i64 p.2.2]
def Zx(W:aB)(g i:Nat)(a:fC)(bss:fJ):Prop:=
 W.cell? ⟨g,i*3,none⟩=some (.int .i64 (a.getD i 0))/\W.cell? ⟨g,i*3+2,none⟩=some (.int .i64 ((bss.getD i []).length:Nat))/\
  ∃u,W.cell? ⟨g,i*3+1,none⟩=some u/\oP W 116 5 u (D7 (bss.getD i [])).length ((D7 (bss.getD i [])).flatMap zy)
def P5(W:aB)(rb d:Nat)(b:fC)(bss:fJ):Prop:=
 ∃(a:Option Addr)(c:Nat),o6 W rb 50 #[.int .u64 d,.slice a b.length c]/\b.length<=c/\c<=9223372036854775807/\bss.length=b.length/\∀i,i<b.length->∃g,a=some ⟨g,0,none⟩/\Zx W g i b bss
def Zx.ext{w w':aB}{g i:Nat}{a:fC}{bss:fJ}(h:Zx w g i a bss)(c:Ext w w'):Zx w' g i a bss:=have⟨j,f,u,e,d⟩:=h;⟨c.cell j,c.cell f,u,c.cell e,d.keep λb k=>c.block b<|d.lt k⟩
def P5.ext{w w':aB}{rb c:Nat}{b:fC}{bss:fJ}(h:P5 w rb c b bss)(f:Ext w w'):P5 w' rb c b bss:=have⟨a,d,j,n,o,l,k⟩:=h;⟨a,d,(f.block rb j.lt).trans j,n,o,l,λi m=>let ⟨g,e,h⟩:=k i m;⟨g,e,h.ext f⟩⟩
structure Hq(W:World)(B rb gen:Nat)(ids:List Int)(bss:List (List UInt8))(rows:List (Int×Value×Nat))(v:Value):Prop where
 box:o6 W rb 50 #[.int .u64 gen,v]
 row:W.ownsRow B 54 3 v rows.length (rows.flatMap WM)
 len:rows.length=bss.length
 seg:∀(i:Nat)p,rows[i]?=some p->p.1=ids.getD i 0/\p.2.2=(bss.getD i []).length/\W.ownsRow B 116 5 p.2.1 (D7 (bss.getD i [])).length ((D7 (bss.getD i [])).flatMap zy)
theorem my{w:aB}{size:Nat}{xs:jl}(h:w.ownsRow B e size v n xs):oP w e size v n xs:=by
 refine⟨h.1,?_⟩;obtain h|⟨g,b,a,rfl,_,i,j,f,c,d⟩:=h.2
 exact .inl h
 exact .inr ⟨g,b,a,_,rfl,i,j,f,c,d⟩
theorem Hq.store{rb:Nat}{c:fC}{bss:fJ}{rows:List (Int×Value×Nat)}(h:Hq W B rb k c bss rows v)(n:bss.length=c.length):P5 W rb k c bss:=by
 have j:=h.len.trans n;have H:maxLen<=9223372036854775807:=qc
 have f:∃(a:Option Addr)(b:Nat),v=.slice a c.length b/\c.length<=b/\b<=9223372036854775807:=by
  obtain⟨rfl,r⟩|⟨g,b,A,rfl,_,_,D,F,_⟩:=h.row.2
  ·exact⟨none,0,by rw[<-j,r],aj,aj⟩
  exact⟨_,b,by rw[j],aj,aj⟩
 obtain⟨a,b,rfl,w,y⟩:=f;refine⟨a,b,h.box,w,y,n,λi G=>?_⟩;have m:rows[i]?=some rows[i]:=au _;obtain⟨g,o,e,-,-,-,l⟩:=Dh (f:=WM) (λ_=>rfl) h.row m;injection e with u C E;let⟨t,x,s⟩:=h.seg i _ m;have p:=l 0 _ rfl;have q:=l 2 _ rfl;rw[t] at p;rw[x] at q;exact⟨g,u,p,q,_,l 1 _ rfl,my s⟩
def Hq.keep{W':aB}{rb:Nat}{a:fC}{bss:fJ}{rows:List (Int×Value×Nat)}(h:Hq W B rb c a bss rows v)(f:∀b,b<W.heap.size->W'.heap[b]?=W.heap[b]?):Hq W' B rb c a bss rows v where
 box:=(f rb h.box.lt).trans h.box
 row:=jH.row h.row W' λb e=>f b (World.ownsRow.lt h.row b e).2
 len:=h.len
 seg:=λi p d=>⟨(h.seg i p d).1,(h.seg i p d).2.1,jH.row (h.seg i p d).2.2 W' λb e=>f b (World.ownsRow.lt (h.seg i p d).2.2 b e).2⟩
def LG(W:aB)(B rb c:Nat)(a:fC)(bss:fJ):Prop:=∀d:aB,(∀b,B<=b->b<W.heap.size->d.heap[b]?=W.heap[b]?)->P5 d rb c a bss
def LG.get{rb b:Nat}{a:fC}{bss:fJ}(h:LG W B rb b a bss):P5 W rb b a bss:=h W λ_ _ _=>rfl
theorem LG.held{F:tyP}{rb:Nat}{a:fC}{bss:fJ}(h:LG W B rb c a bss)(k:∀b,F b->b<B):Held W F (λW=>P5 W rb c a bss):=
 ⟨λb=>B<=b/\b<W.heap.size,λb d=>⟨d.2,λf=>by have:=k b f;omega⟩,λi e=>h i λb j g=>e b ⟨j,g⟩⟩
theorem Hq.new{W:aB}{B j rb e:Nat}{a:fC}{bss:fJ}{rows:List (Int×Value×Nat)}{v:aX}(h:Hq W B rb e a bss rows v)(k:bss.length=a.length)(l:B<=rb)(m:j<=B):LG W j rb e a bss:=λg f=>
 Hq.store ⟨(f rb aj h.box.lt).trans h.box,jH.row h.row g λb d=>f b (by have:=(World.ownsRow.lt h.row b d).1;omega) (World.ownsRow.lt h.row b d).2,h.len,
  λi p c=>⟨(h.seg i p c).1,(h.seg i p c).2.1,jH.row (h.seg i p c).2.2 g λb d=>f b (by have:=(World.ownsRow.lt (h.seg i p c).2.2 b d).1;omega) (World.ownsRow.lt (h.seg i p c).2.2 b d).2⟩⟩ k
def Qc(l:Fl)(w:aB)(e:Ending)(w':aB):Prop:=
 ∃v,e=.returned (.tuple #[v,.int .i64 (G9 l).2.1,bJ (G9 l).2.2])/\Ext w w'/\(((G9 l).1=none/\v=.pointer none)\/∃g a b c,(G9 l).1=some (g,a,b)/\zk a/\(∀i,(b.getD i []).length<=1099511627776)/\v=l9 c/\w.heap.size<=c/\LG w' w c g a b)
theorem cI(v:aX)(l:Fl)(w:aB)(h:P6 w v l)(hl:∀p∈l,p.2.length<=1099511627776):
 Calls prog 17 #[v] w (Qc l w):=by
 obtain⟨i0,hi0,hz0,hz1,hz2⟩:=info_parts tf;have hfd:=bE v l y8 w h;have uQ:=ah hfd;have HF:=ah h;have HL:=ah hl;clear hfd h hl;unfold bJ at uQ;unfold y8 at uQ;go_enter func17,ntmps17
 go_wp2_with fail
 refine uQ.out.mono ?_;rintro e w1 ⟨rfl,bv,rfl,hbv⟩
 cases hm:A7 l [109,97,110,105,102,101,115,116] with
 | none=>
  have hfin:Qc l w1 (.returned (.tuple #[.pointer none,.int .i64 5,.string ⟨#[]⟩])) w1:=by have e:=XB hm;exact⟨.pointer none,by rw[e];rfl,dh w1,.inl ⟨by rw[e],rfl⟩⟩
  have qN:=ah hfin;clear hfin hbv uQ;go_wp2;go_ret3
  exact qN.out
 | some m=>
  rw[hm] at hbv;have hrm:=b09 bv m w1 hbv;have yx:=ah hrm;clear hrm hbv uQ;go_wp2_with fail
  refine yx.out.mono ?_;rintro e w5 ⟨gv,iv,ok,rfl,kE,hcase⟩;clear yx;rcases hcase with⟨hrd,rfl,rfl,rfl⟩|⟨gen,ids,hrd,rfl,rfl,hown⟩
  ·have hfin:Qc l w1 (.returned (.tuple #[.pointer none,.int .i64 6,.string ⟨#[]⟩])) w5:=by have e:=Qx hm hrd;exact⟨.pointer none,by rw[e];rfl,kE,.inl ⟨by rw[e],rfl⟩⟩
   have qN:=ah hfin;clear hfin hrd hm kE;go_wp2;go_ret3
   exact qN.out
  ·have hin:=si hrd;have hints:=jd.ints hown;obtain⟨xa,xc,rfl⟩:=ownsRow_form hown;have hf5:=HF.out.ext kE;have UA:o6 (w5.alloc (.cells #[.int .u64 gen,.slice none 0 0] 50)) w5 50 #[.int .u64 gen,.slice none 0 0]:=jR _ _ rfl;have hil:=hin.1;have HX:=ah hints;have DL:=ah hin;have rM:=ah kE;have Yk:=ah hf5;have HM:=ah hm;have QM:=ah hrd;clear hints hin kE hf5 hm hrd hown HF;go_wp2_with fail
   go_loopw [11] (λi wr=>∃(k:Nat)(acc:fJ)(rows:List (Int×Value×Nat))(sv:aX),i=.int .i64 k/\k<=ids.length/\acc.length=k/\(∀b∈acc,b.length<=1099511627776)/\N8 l ids []=N8 l (ids.drop k) acc/\Hq wr w5 w5 gen ids acc rows sv/\Ext w5 wr) (λi _=>ids.length - (intOf i).toNat)
   case atStart=>exact⟨0,[],[],.slice none 0 0,rfl,aj,rfl,aZ,rfl,⟨UA,⟨rfl,Or.inl ⟨rfl,rfl⟩⟩,rfl,aZ⟩,(dh w5).new _⟩
   case round=>
    obtain⟨k,acc,rows,sv,rfl,hk,hal,hab,hsg,hS,hE⟩:=hrel;by_cases hlt:k<ids.length
    ·obtain⟨xb,rfl,oQ⟩:=HX.out.at hE hlt;have hr:=DL.out.2 ids[k] (bQ hlt);obtain⟨y,hy⟩:∃y:Nat,ids[k]=(y:Int):=⟨ids[k].toNat,aj⟩;rw[hy] at oQ hr;have hnm:=Qy D6 y wr IQ aj;obtain⟨name,hname⟩:∃name,y7 D6 y=name:=⟨_,rfl⟩;have hdrop:ids.drop k=(y:Int)::ids.drop (k+1):=by rw[gy hlt,hy]
     rw[hdrop] at hsg;rw[hname] at hnm;have hf1:=Yk.out.ext hE;have LL:=ah hnm;have qA:=ah hsg;have HS:=ah hS;have HE:=ah hE;have HAB:=ah hab;have HY:=ah hy;have nR:=ah hname;have JL:=ah hal;have fL:=ah hf1;clear hnm hsg hS hE hab hy hname hdrop hf1;unfold bJ D6 at LL;go_wp2_with fail
     refine LL.out.mono ?_;rintro e w7 ⟨rfl,xP⟩;have hfd:=bE v l name w7 (fL.out.ext xP);have uQ:=ah hfd;have yB:=ah xP;clear hfd xP LL;unfold bJ at uQ;go_wp2_with fail
     refine uQ.out.mono ?_;rintro e w8 ⟨rfl,bv,rfl,hbv⟩;clear uQ;have hseg:y7 D6 ((y:Int)).toNat=name:=by rw[fQ];exact nR.out
     cases hlk:A7 l name with
     | none=>
      have hs0:N8 l ids []=(none,name):=by rw[qA.out,EV (by rw[hseg];exact hlk),hseg]
      have hro:=QF HM.out QM.out hs0;have hfin:Qc l w1 (.returned (.tuple #[.pointer none,.int .i64 7,.string ⟨name.toArray⟩])) w8:=
       ⟨.pointer none,by rw[hro];rfl,rM.out.trans (HE.out.trans yB.out),.inl ⟨by rw[hro],rfl⟩⟩
      have qN:=ah hfin;clear hfin hro hs0 hbv hlk hseg qA HS;go_wp2;go_ret3
      exact qN.out
     | some b=>
      rw[hlk] at hbv;have hbl:=HL.out _ (Y4 hlk);have hs1:N8 l ids []=N8 l (ids.drop (k+1)) (acc++[b]):=by rw[qA.out,cL (by rw[hseg];exact hlk)]
      have hrr:=JP bv b w8 hbv hbl;have HRR:=ah hrr;have HS1:=ah hs1;have ON:=ah hbv;have EI:=ah hbl;obtain⟨ba,bc,rfl,hbc⟩:∃ba bc,bv=.slice ba b.length bc/\b.length<=bc:=by obtain⟨ba,bc,e,h1,_⟩:=hbv;exact⟨ba,bc,e,h1⟩
      clear hrr hs1 hbv hbl hlk hseg qA;go_wp2_with fail
      refine HRR.out.mono ?_;rintro e w9 ⟨u,rfl,hrow,qh⟩;obtain⟨ua,uc,rfl⟩:=ownsRow_form hrow;have OV:=HS.out.keep (W':=w9) λq hq=>((yB.out.trans qh).block q hq);have Lc:Ext w5 w9:=HE.out.trans (yB.out.trans qh);have qa5:=Lc.size;have ly:w5.heap.size<=w8.heap.size:=(HE.out.trans yB.out).size;have Iz:=H6 hrow ly;have xc9:=(yB.out.trans qh).cell oQ;obtain⟨sa,sc,hsv⟩:=ownsRow_form OV.row;have hrl:rows.length=k:=by rw[OV.len];exact JL.out
      rw[hrl] at hsv;subst hsv;have hb1:=OV.box;have hown:w9.ownsRow w5 54 3 (.slice sa k sc) k (rows.flatMap WM):=by have:=OV.row;rw[hrl] at this;exact this
      have hod:(w9.drew.alloc (.cells #[.int .i64 y,.slice ua (D7 b).length uc,.int .i64 b.length] 54)).ownsRow w5 54 3 (.slice sa k sc) k (rows.flatMap WM):=World.ownsRow.alloc (w:=w9) hown (.cells #[.int .i64 y,.slice ua (D7 b).length uc,.int .i64 b.length] 54);have m0:=(hb1.cell 1).trans (show _=some (Value.slice sa k sc) from rfl);have mf0:=hb1.free 1;have Zs:o6 (w9.drew.alloc (.cells #[.int .i64 y,.slice ua (D7 b).length uc,.int .i64 b.length] 54)) w5 50 #[.int .u64 gen,.slice sa k sc]:=o6.alloc (w:=w9.drew) hb1 _;have hne:(Value.slice sa k sc).ownBlock≠some w5.heap.size:=I4 hown hb1 dA;have hlt0:w5.heap.size<w9.heap.size:=hb1.lt;have HS9:=ah OV;have N3:=ah Lc;have HR9:=ah Iz;have HBF:=ah Zs;have JG:=ah hne;have HOW:=ah hown;have Nl:=ah hrl;clear OV Lc Iz hrow hb1 Zs hne hown hrl oQ qh HRR yB HE HS fL;go_wp2_with fail
      go_region_law (refine step_append_lies _ rfl _ _ _ rfl w5 54 i0 (.agg #[.int .i64 0,.slice none 0 0,.int .i64 0]) 3 40 underlying48 hi0 hz0 hz1 hz2 rfl aj (.slice sa k sc) k _ rfl hod w9 1 1 [.int .i64 y,.slice ua (D7 b).length uc,.int .i64 b.length] rfl rfl (World.news_of_block (cs:=#[.int .i64 y,.slice ua (D7 b).length uc,.int .i64 b.length]) (t:=54) (fr:=(0,0)) (heap_alloc_new w9.drew _)) qV aj lJ aj iw (w9+1) aZ ?_;intro gg cap6 w6 hown6 hgrow6 kZ mB;have hb6:=HBF.out.grown' hgrow6 JG.out;have m6:=(hb6.cell 1).trans (show _=some (Value.slice sa k sc) from rfl);have mf6:=hb6.free 1;have NQ:=ah hb6;have pX:=ah hown6;have yA:=ah hgrow6;clear hb6 hown6 hgrow6)
      all_goals
       go_wp2;go_roundw
       case rel=>
        have Gi:(Value.slice (some ⟨gg,0,none⟩) (k+1) cap6).ownBlock≠some w5.heap.size:=I4 pX.out NQ.out dA;have hfin:∀q,q<w9.heap.size->(Value.slice sa k sc).ownBlock≠some q->q≠w5.heap.size->(w6.setCell ⟨w5,1,none⟩ (.slice (some ⟨gg,0,none⟩) (k+1) cap6)).heap[q]?=w9.heap[q]?:=λq h1 h2 h3=>(Below.heap_setCell _ _ _ _ h3).trans ((yA.out.block q iw (λe=>h2 e.symm)).trans (heap_alloc_old w9.drew _ h1))
        have hrk:∀(n:Nat)(vv:aX)(xs:jl),w9.ownsRow w5 116 5 vv n xs->(w6.setCell ⟨w5,1,none⟩ (.slice (some ⟨gg,0,none⟩) (k+1) cap6)).ownsRow w5 116 5 vv n xs:=λn vv xs h=>jH.row h _ λq hq=>hfin q (World.ownsRow.lt h q hq).2 (Di h HOW.out dA hq) (λe=>I4 h HS9.out.box dA (e▸hq))
        refine⟨k+1,acc++[b],rows++[((y:Int),.slice ua (D7 b).length uc,b.length)],_,iE,aj,by rw[aC,JL.out];rfl,λb' hb'=>?_,HS1.out,⟨by simpa using NQ.out.set 1 _,?_,?_,λi p hp=>?_⟩,?_⟩
        ·rcases aP.1 hb' with h|h
         ·exact HAB.out b' h
         ·obtain rfl:b'=b:=by simpa using h
          exact EI.out
        ·have:=ownsRow_setCell_other (a:=⟨w5,1,none⟩) pX.out Gi (.slice (some ⟨gg,0,none⟩) (k+1) cap6);rw[aC,Nl.out,dZ];simpa [WM] using this
        ·rw[aC,aC,Nl.out,JL.out];rfl
        ·by_cases hi:i<k
         ·rw[bP (by rw[Nl.out];exact hi)] at hp;obtain⟨s1,s2,s3⟩:=HS9.out.seg i p hp;have e:(acc++[b]).getD i []=acc.getD i []:=by rw[aT,aT,bP (by rw[JL.out];exact hi)]
          rw[e];exact⟨s1,s2,hrk _ _ _ s3⟩
         ·rw[cZ (by rw[Nl.out];omega)] at hp;have e0:i - rows.length=0:=by
           rcases gK (i - rows.length) with e|e
           ·exact e
           ·rw[ji iw] at hp;cases hp
          rw[e0] at hp;simp at hp;subst hp;have hik:i=k:=by have:=Nl.out;omega
          subst hik;have e:(acc++[b]).getD i []=b:=by rw[aT,cZ (by rw[JL.out];exact ak _),JL.out];simp
          rw[e];refine⟨?_,rfl,hrk _ _ _ HR9.out⟩;rw[aT,au hlt,HY.out];rfl
        ·refine jP ?_ aZ;exact Below.grown ((lI N3.out (Below.drew (dh w9))).new (.cells #[.int .i64 y,.slice ua (D7 b).length uc,.int .i64 b.length] 54)) yA.out iw (λj hj=>(HOW.out.lt j hj).1)
       case measure=>simp[intOf];omega
    ·obtain rfl:k=ids.length:=aj
     have hst:=hS.new hal (ak _) rM.out.size;have TK:N8 l ids []=(some acc,[]):=by rw[hsg,List.drop_length];rfl
     have hro:=MH HM.out QM.out TK;have hfin:Qc l w1 (.returned (.tuple #[.pointer (some w5),.int .i64 0,.string ⟨#[]⟩])) wr:=by
      refine⟨l9 w5.heap.size,by rw[hro];rfl,rM.out.trans hE,.inr ⟨gen,ids,acc,w5.heap.size,by rw[hro],DL.out,λi=>?_,rfl,rM.out.size,hst⟩⟩;rw[aT]
      cases e:acc[i]? with
      | none=>simp
      | some b=>exact hab b (aH e)
     have qN:=ah hfin;clear hfin hst hsg TK hro hS hE hab;go_wp2;go_ret3
     exact qN.out
def DG(p:Nat×Rec):(zy p).length=5:=rfl
theorem ZG{γ:Type}{f:γ->List Value}{N:Nat}(hf:∀x,(f x).length=N){w:aB}{l:List γ}(h:oP w e N v l.length (l.flatMap f)){t:γ}(hk:l[k]?=some t):
 ∃g cap,v=.slice (some ⟨g,0,none⟩) l.length cap/\l.length<=cap/\cap<=maxLen/\g<w.heap.size/\∀c x,(f t)[c]?=some x->w.cell? ⟨g,k*N+c,none⟩=some x:=by
 have hkl:k<l.length:=(aJ.1 hk).1;rcases h.2 with⟨_,h0⟩|⟨g,cap,cur,fr,rfl,hg,h1,h2,h3,h4⟩
 ·omega
 ·refine⟨g,cap,rfl,h1,h2,lt_of_block hg,λc x hx=>?_⟩;have hc:c<N:=by have:=(aJ.1 hx).1;rw[hf] at this;exact this
  have e1:=Zh f hf l k t hk c hc;rw[hx] at e1;have hlt:k*N+c<l.length*N:=by have:(k+1)*N<=l.length*N:=fH _ hkl;rw[jw] at this;omega
  rw[<-h4,fB,if_pos hlt] at e1;simp only[World.cell?,hg];simpa using e1
theorem oP.cap{w:aB}{size:Nat}{xs:jl}(h:oP w e size v n xs):n<=maxLen:=by
 rcases h.2 with⟨_,h0⟩|⟨g,cap,cur,fr,_,_,h1,h2,_⟩
 ·omega
 ·omega
def WO(bY:List (List (Nat×Rec)))(i k:Nat)(key:Nm)(j m:Nat):Prop:=∀(j' m':Nat)(q:Nat×Rec),(bY.getD j' [])[m']?=some q->(i<j'\/(j'=i/\k<m'))->(j'<j\/(j'=j/\m'<m))->q.2.key≠key
def WO.start(bY:List (List (Nat×Rec)))(i k:Nat)(key:Nm):WO bY i k key i 0:=λj' m' q _ h1 h2=>aj
theorem WO.seg{bY:List (List (Nat×Rec))}{i:Nat}{key:Nm}(h:WO bY i k key j (bY.getD j []).length):WO bY i k key (j+1) 0:=by
 intro j' m' q h1 h2 h3;have hm:=(aJ.1 h1).1;refine h j' m' q h1 h2 ?_;by_cases e:j'=j
 ·subst e;exact .inr ⟨rfl,hm⟩
 ·omega
def U4(p:Nm×Nm):(F9 p).length=2:=rfl
def c1u:(prog.info? 60).map (λi=>(i.zero,i.size,i.bytes))=some (some (.agg #[.string ⟨#[]⟩,.string ⟨#[]⟩]),2,32):=rfl
abbrev rrV(r:Rec):Value:=.agg #[.int .u64 r.seq,.string ⟨r.key.toArray⟩,.string ⟨r.val.toArray⟩,.bool r.del,.int .i64 r.size]
structure cy(wx:World)(l:List (Nm×Nm))(r:Rec)(u:Value)(done:Bool)(n:Nat)(acc:List (Nm×Nm))(wr:World):Prop where
 le:n<=l.length
 len:acc.length<=n+(if done then 1 else 0)
 res:xU l r=acc++rH r (l.drop n) done
 row:wr.ownsRow wx 60 2 u acc.length (acc.flatMap F9)
 ext:Ext wx wr
theorem WW(w:aB)(n:Nat)(o:Obj):((w.drewN n).alloc o).heap[w.heap.size]?=some o:=by have:=heap_alloc_new (w.drewN n) o;trivial
theorem put_any(v:aX)(l:List (Nm×Nm))(r:Rec)(w:aB)(h:oP w 60 2 v l.length (l.flatMap F9))(hl:l.length<=4000000000000):
 Calls prog 70 #[v,rrV r] w λe w'=>∃u,e=.returned u/\w'.ownsRow w 60 2 u (xU l r).length ((xU l r).flatMap F9)/\Ext w w':=by
 obtain⟨i0,hi,J,I,L⟩:=info_parts c1u;obtain⟨va,vc,rfl⟩:=h.slice;have hcap:=h.cap;obtain⟨n,R⟩:∃n,l.length=n:=⟨_,rfl⟩;have hX:o6 (w.alloc (.cells #[.int .u64 r.seq,.string ⟨r.key.toArray⟩,.string ⟨r.val.toArray⟩,.bool r.del,.int .i64 r.size] 116)) w 116 #[.int .u64 r.seq,.string ⟨r.key.toArray⟩,.string ⟨r.val.toArray⟩,.bool r.del,.int .i64 r.size]:=jR _ _ rfl;have hE0:Ext w (w.alloc (.cells #[.int .u64 r.seq,.string ⟨r.key.toArray⟩,.string ⟨r.val.toArray⟩,.bool r.del,.int .i64 r.size] 116)):=(dh w).new _;obtain⟨x,M⟩:∃x,w.alloc (.cells #[.int .u64 r.seq,.string ⟨r.key.toArray⟩,.string ⟨r.val.toArray⟩,.bool r.del,.int .i64 r.size] 116)=x:=⟨_,rfl⟩;have x1:=(hX.cell 1).trans (show _=some (Value.string ⟨r.key.toArray⟩) from rfl);have x2:=(hX.cell 2).trans (show _=some (Value.string ⟨r.val.toArray⟩) from rfl);have x3:=(hX.cell 3).trans (show _=some (Value.bool r.del) from rfl);have hxs:x.heap.size=w+1:=by rw[<-M];simp
 rw[M] at x1 x2 x3 hE0;obtain⟨K,hK⟩:∃K,r.key=K:=⟨_,rfl⟩;obtain⟨V,hV⟩:∃V,r.val=V:=⟨_,rfl⟩;obtain⟨dl,hdl⟩:∃dl,r.del=dl:=⟨_,rfl⟩;rw[hK] at x1;rw[hV] at x2;rw[hdl] at x3;have H:=ah h;have AQ:=ah hE0;have HW:=ah M;have HK:=ah hK;have HV:=ah hV;have HD:=ah hdl;have HN:=ah R;have HXS:=ah hxs;rw[R] at hl;have hst:cy x l r (.slice none 0 0) r.del 0 [] x:=⟨aj,aZ,rfl,⟨rfl,Or.inl ⟨rfl,rfl⟩⟩,dh x⟩;have HST:=ah hst;have hcv:n<=vc/\vc<=9223372036854775807:=by
  rcases h.2 with⟨e,h0⟩|⟨g,cap,cur,fr,e,_,h1,h2,_⟩
  ·injection e with e1 e2 e3;subst e3;omega
  ·injection e with e1 e2 e3;subst e3;unfold maxLen at h2;omega
 rw[R] at hcap⊢;clear h hE0 M hK hV hdl R hX hst hxs;go_enter func70,ntmps70
 go_wp2_with fail
 rw[HW.out];go_loopw [5,6,7] (λu dn i wr=>∃(k:Nat)(t:Bool)(c:List (Nm×Nm)),dn=.bool t/\i=.int .i64 k/\cy x l r u t k c wr) (λ_ _ i _=>n - (intOf i).toNat)
 case atStart=>exact⟨0,r.del,[],rfl,rfl,HST.out⟩
 case round=>
  obtain⟨k,t,c,rfl,rfl,S⟩:=hrel;obtain⟨ua,uc,rfl⟩:=ownsRow_form S.row;have hkn:k<=n:=by have:=S.le;rw[HN.out] at this;exact this
  have y1:=S.ext.cell x1;have y2:=S.ext.cell x2;have G:=S.len;have q:c.length<=k+1:=by split at G<;>omega
  have B:t=false->c.length<=k:=λh=>by rw[h] at G;simpa using G
  clear G;have M:w.heap.size<=x.heap.size:=by have:=HXS.out;omega
  have X:∀D,Ext wr D->D.ownsRow x 60 2 (.slice ua c.length uc) c.length (c.flatMap F9):=λD hz=>jH.row S.row D λb Z=>hz.block b (World.ownsRow.lt S.row b Z).2;have p:=ah X;have y:=ah S;clear X S;by_cases hlt:k<n
  ·have hkl:k<l.length:=by rw[HN.out];exact hlt
   have hp:l[k]?=some l[k]:=au hkl;obtain⟨P,hP⟩:∃P,l[k]=P:=⟨_,rfl⟩;rw[hP] at hp;obtain⟨g,cap,e,-,-,hgl,A⟩:=ZG U4 (H.out.keep λb Z=>AQ.out.block b (H.out.lt Z)) hp;injection e with e1 e2 e3;subst e1;subst e3;have q0:=A 0 _ rfl;have q1:=A 1 _ rfl;rw[iP] at q0;have r0:=y.out.ext.cell q0;have r1:=y.out.ext.cell q1;have hki:(k:Int)<(n:Int):=aj
   have O:l.drop k=P::l.drop (k+1):=by rw[gy hkl,hP]
   have s:=y.out.res;rw[O,rH,HK.out,HV.out] at s;obtain⟨lb,hlb⟩:∃lb,Op.bytesLess P.1 K=lb:=⟨_,rfl⟩;rw[hlb] at s;have Ia:=ah s;clear s A O hp hP;by_cases z:P.1=K
   ·have hx:(P.1==K)=true:=fO.2 z;have o:=Ia.out;rw[if_pos z] at o;clear z Ia
    cases t with
    | true=>
     have F:=ah o;clear o hlb;go_wp2_with fail
     go_quiet (fail)
     go_wp2_with fail
     go_quiet (fail)
     go_wp2;go_roundw
     case rel=>
      refine⟨k+1,true,c,rfl,iE,aj,by first|(simp;omega)|(simp;exact q)|omega,?_,?_,?_⟩
      ·have:=F.out;simpa using this
      ·exact p.out _ (gZ _ _)
      ·exact y.out.ext.trans (gZ _ _)
     case measure=>simp[intOf];omega
    | false=>
     have IB:=B rfl
     cases lb with
     | true=>
      have F:=ah o;clear o;go_wp2_with fail
      go_quiet (fail)
      go_wp2_with fail
      go_quiet (fail)
      go_wp2;go_roundw
      case rel=>
       refine⟨k+1,false,c,rfl,iE,aj,by first|(simp;omega)|(simp;exact q)|omega,?_,?_,?_⟩
       ·have:=F.out;simpa using this
       ·exact p.out _ (gZ _ _)
       ·exact y.out.ext.trans (gZ _ _)
      case measure=>simp[intOf];omega
     | false=>
      have F:=ah o;clear o;go_wp2_with fail
      go_quiet (fail)
      go_wp2_with (at_builtin;go_must (refine A8 rfl _ _ 46 rfl x 60 i0 (.agg #[.string ⟨#[]⟩,.string ⟨#[]⟩]) 2 32 underlying46 hi J I L rfl aj (.slice ua c.length uc) c.length _ rfl (World.ownsRow.alloc (p.out _ (gZ _ _)) (.cells #[.string ⟨K.toArray⟩,.string ⟨V.toArray⟩] 60)) (.slice (some ⟨_,0,none⟩) 1 1) 1 [.string ⟨K.toArray⟩,.string ⟨V.toArray⟩] rfl ⟨_,_,rfl,aj,⟨aj,λh=>by cases h⟩,λ_=>⟨_,rfl,World.news_of_block (cs:=#[.string ⟨K.toArray⟩,.string ⟨V.toArray⟩]) (t:=60) (fr:=(0,0)) (WW _ _ _)⟩⟩ rfl qV lJ aj (((y.out.ext).trans (gZ _ _)).new _).size ?_);intro b6 c6 Y m d kZ;have mY:Ext x Y:=Below.grown (((y.out.ext).trans (gZ _ _)).new _) d (((y.out.ext).trans (gZ _ _)).new _).size (λj Q=>(World.ownsRow.lt (p.out _ (dh _)) j Q).1);have pX:=ah m;have C:=ah mY;clear m d kZ)
      have z1:=C.out.cell x1;have z2:=C.out.cell x2;have p0:=C.out.cell q0;have p1:=C.out.cell q1;have N:∀D,Ext Y D->D.ownsRow x 60 2 (.slice b6 (c.length+1) c6) (c.length+1) ((c++[(K,V)]).flatMap F9):=λD hz=>by have:=jH.row pX.out D λb Z=>hz.block b (World.ownsRow.lt pX.out b Z).2;rw[dZ];simpa [F9] using this
      have eR:=ah N;clear N mY;go_wp2_with fail
      go_quiet (fail)
      go_wp2;go_roundw
      case rel=>
       refine⟨k+1,true,(c++[(K,V)]),rfl,iE,aj,by first|(simp;omega)|(simp;exact q)|omega,?_,?_,?_⟩
       ·have:=F.out;simpa using this
       ·rw[aC];exact eR.out _ (gZ _ _)
       ·exact C.out.trans (gZ _ _)
      case measure=>simp[intOf];omega
   ·have hx:(P.1==K)=false:=bG.2 z;have o:=Ia.out;rw[if_neg z] at o;clear z Ia
    cases t with
    | true=>
     have F:=ah o;clear o hlb;go_wp2_with fail
     go_quiet (fail)
     go_wp2_with fail
     go_quiet (fail)
     go_wp2_with (at_builtin;go_must (refine A8 rfl _ _ 46 rfl x 60 i0 (.agg #[.string ⟨#[]⟩,.string ⟨#[]⟩]) 2 32 underlying46 hi J I L rfl aj (.slice ua c.length uc) c.length _ rfl (World.ownsRow.alloc (p.out _ (gZ _ _)) (.cells #[.string ⟨P.1.toArray⟩,.string ⟨P.2.toArray⟩] 60)) (.slice (some ⟨_,0,none⟩) 1 1) 1 [.string ⟨P.1.toArray⟩,.string ⟨P.2.toArray⟩] rfl ⟨_,_,rfl,aj,⟨aj,λh=>by cases h⟩,λ_=>⟨_,rfl,World.news_of_block (cs:=#[.string ⟨P.1.toArray⟩,.string ⟨P.2.toArray⟩]) (t:=60) (fr:=(0,0)) (WW _ _ _)⟩⟩ rfl qV lJ aj ((y.out.ext.trans (gZ _ _)).new _).size ?_);intro b7 c7 w7 kC T BX;have xP:Ext x w7:=Below.grown ((y.out.ext.trans (gZ _ _)).new _) T ((y.out.ext.trans (gZ _ _)).new _).size (λj Q=>(World.ownsRow.lt (p.out _ (dh _)) j Q).1);have Ib:=ah kC;have yB:=ah xP;clear kC T BX)
     go_roundw
     case rel=>
      refine⟨k+1,true,c++[P],rfl,iE,aj,by first|(simp;omega)|(simp;exact q)|omega,?_,?_,yB.out⟩
      ·have:=F.out;simpa using this
      ·have:=Ib.out;rw[dZ];simpa [F9] using this
     case measure=>simp[intOf];omega
    | false=>
     have IB:=B rfl
     cases lb with
     | true=>
      have F:=ah o;clear o;go_wp2_with fail
      go_quiet (fail)
      go_wp2_with fail
      go_quiet (fail)
      go_wp2_with (at_builtin;go_must (refine A8 rfl _ _ 46 rfl x 60 i0 (.agg #[.string ⟨#[]⟩,.string ⟨#[]⟩]) 2 32 underlying46 hi J I L rfl aj (.slice ua c.length uc) c.length _ rfl (World.ownsRow.alloc (p.out _ (gZ _ _)) (.cells #[.string ⟨P.1.toArray⟩,.string ⟨P.2.toArray⟩] 60)) (.slice (some ⟨_,0,none⟩) 1 1) 1 [.string ⟨P.1.toArray⟩,.string ⟨P.2.toArray⟩] rfl ⟨_,_,rfl,aj,⟨aj,λh=>by cases h⟩,λ_=>⟨_,rfl,World.news_of_block (cs:=#[.string ⟨P.1.toArray⟩,.string ⟨P.2.toArray⟩]) (t:=60) (fr:=(0,0)) (WW _ _ _)⟩⟩ rfl qV lJ aj ((y.out.ext.trans (gZ _ _)).new _).size ?_);intro b7 c7 w7 kC T BX;have xP:Ext x w7:=Below.grown ((y.out.ext.trans (gZ _ _)).new _) T ((y.out.ext.trans (gZ _ _)).new _).size (λj Q=>(World.ownsRow.lt (p.out _ (dh _)) j Q).1);have Ib:=ah kC;have yB:=ah xP;clear kC T BX)
      go_roundw
      case rel=>
       refine⟨k+1,false,c++[P],rfl,iE,aj,by first|(simp;omega)|(simp;exact q)|omega,?_,?_,yB.out⟩
       ·have:=F.out;simpa using this
       ·have:=Ib.out;rw[dZ];simpa [F9] using this
      case measure=>simp[intOf];omega
     | false=>
      have F:=ah o;clear o;go_wp2_with fail
      go_quiet (fail)
      go_wp2_with (at_builtin;go_must (refine A8 rfl _ _ 46 rfl x 60 i0 (.agg #[.string ⟨#[]⟩,.string ⟨#[]⟩]) 2 32 underlying46 hi J I L rfl aj (.slice ua c.length uc) c.length _ rfl (World.ownsRow.alloc (p.out _ (gZ _ _)) (.cells #[.string ⟨K.toArray⟩,.string ⟨V.toArray⟩] 60)) (.slice (some ⟨_,0,none⟩) 1 1) 1 [.string ⟨K.toArray⟩,.string ⟨V.toArray⟩] rfl ⟨_,_,rfl,aj,⟨aj,λh=>by cases h⟩,λ_=>⟨_,rfl,World.news_of_block (cs:=#[.string ⟨K.toArray⟩,.string ⟨V.toArray⟩]) (t:=60) (fr:=(0,0)) (WW _ _ _)⟩⟩ rfl qV lJ aj (((y.out.ext).trans (gZ _ _)).new _).size ?_);intro b6 c6 Y m d kZ;have mY:Ext x Y:=Below.grown (((y.out.ext).trans (gZ _ _)).new _) d (((y.out.ext).trans (gZ _ _)).new _).size (λj Q=>(World.ownsRow.lt (p.out _ (dh _)) j Q).1);have pX:=ah m;have C:=ah mY;clear m d kZ)
      have z1:=C.out.cell x1;have z2:=C.out.cell x2;have p0:=C.out.cell q0;have p1:=C.out.cell q1;have N:∀D,Ext Y D->D.ownsRow x 60 2 (.slice b6 (c.length+1) c6) (c.length+1) ((c++[(K,V)]).flatMap F9):=λD hz=>by have:=jH.row pX.out D λb Z=>hz.block b (World.ownsRow.lt pX.out b Z).2;rw[dZ];simpa [F9] using this
      have eR:=ah N;clear N mY;go_wp2_with fail
      go_quiet (fail)
      go_wp2_with (at_builtin;go_must (refine A8 rfl _ _ 46 rfl x 60 i0 (.agg #[.string ⟨#[]⟩,.string ⟨#[]⟩]) 2 32 underlying46 hi J I L rfl aj (.slice b6 (c.length+1) c6) (c.length+1) _ rfl (World.ownsRow.alloc (eR.out _ (gZ _ _)) (.cells #[.string ⟨P.1.toArray⟩,.string ⟨P.2.toArray⟩] 60)) (.slice (some ⟨_,0,none⟩) 1 1) 1 [.string ⟨P.1.toArray⟩,.string ⟨P.2.toArray⟩] rfl ⟨_,_,rfl,aj,⟨aj,λh=>by cases h⟩,λ_=>⟨_,rfl,World.news_of_block (cs:=#[.string ⟨P.1.toArray⟩,.string ⟨P.2.toArray⟩]) (t:=60) (fr:=(0,0)) (WW _ _ _)⟩⟩ rfl qV lJ aj (((C.out).trans (gZ _ _)).new _).size ?_);intro b7 c7 w7 kC T BX;have xP:Ext x w7:=Below.grown (((C.out).trans (gZ _ _)).new _) T (((C.out).trans (gZ _ _)).new _).size (λj Q=>(World.ownsRow.lt (eR.out _ (dh _)) j Q).1);have Ib:=ah kC;have yB:=ah xP;clear kC T BX)
      go_roundw
      case rel=>
       refine⟨k+1,true,(c++[(K,V)])++[P],rfl,iE,aj,by first|(simp;omega)|(simp;exact q)|omega,?_,?_,yB.out⟩
       ·have:=F.out;simpa using this
       ·have:=Ib.out;rw[dZ];simpa [F9] using this
      case measure=>simp[intOf];omega
  ·obtain rfl:k=n:=aj
   have s:=y.out.res;rw[List.drop_eq_nil_of_le (by rw[HN.out];exact ak _),rH,HK.out,HV.out] at s;have F:=ah s;clear s
   cases t with
   | true=>
    have E:wr.ownsRow w 60 2 (.slice ua c.length uc) (xU l r).length ((xU l r).flatMap F9)/\Ext w wr:=by have e:=F.out;simp at e;rw[e];exact⟨H6 (p.out wr (dh wr)) aj,AQ.out.trans y.out.ext⟩
    have HF:=ah E;clear E;go_wp2_with fail
    go_ret
    exact⟨_,rfl,HF.out⟩
   | false=>
    have IB:=B rfl;have e:=F.out;simp at e;have rC:=ah e;clear e;go_wp2_with (at_builtin;go_must (refine A8 rfl _ _ 46 rfl x 60 i0 (.agg #[.string ⟨#[]⟩,.string ⟨#[]⟩]) 2 32 underlying46 hi J I L rfl aj (.slice ua c.length uc) c.length _ rfl (World.ownsRow.alloc (p.out _ (dh _)) (.cells #[.string ⟨K.toArray⟩,.string ⟨V.toArray⟩] 60)) (.slice (some ⟨_,0,none⟩) 1 1) 1 [.string ⟨K.toArray⟩,.string ⟨V.toArray⟩] rfl ⟨_,_,rfl,aj,⟨aj,λh=>by cases h⟩,λ_=>⟨_,rfl,World.news_of_block (cs:=#[.string ⟨K.toArray⟩,.string ⟨V.toArray⟩]) (t:=60) (fr:=(0,0)) (heap_alloc_new _ _)⟩⟩ rfl qV lJ aj ((y.out.ext).new _).size ?_);intro b6 c6 Y m d kZ;have mY:Ext x Y:=Below.grown ((y.out.ext).new _) d ((y.out.ext).new _).size (λj Q=>(World.ownsRow.lt (p.out _ (dh _)) j Q).1);have pX:=ah m;have C:=ah mY;clear m d kZ)
    go_ret;have E:=pX.out;refine⟨_,rfl,?_,AQ.out.trans C.out⟩;rw[rC.out,aC,dZ];simpa [F9] using H6 E aj
theorem xn(h:l.length<=1099511627776):17*(D7 l).length<=1099511627776:=by
 have e:=Xx l;have b:∀(L:List _),(∀p∈L,17<=p.2.size)->17*L.length<=sizes L:=by
  intro L
  induction L with
  | nil=>trivial
  | cons p L d=>intro a;have:=d λq c=>a q<|eX _ c;have:=a p<|gQ ..;unfold sizes at *;simp;omega
 have:=b _<|z' l;omega
theorem C6(rb gen:Nat)(x:fC)(bss:fJ)(w:aB)(h:P5 w rb gen x bss)(hn:x.length<=60)(hl:∀i,(bss.getD i []).length<=1099511627776):
 Calls prog 19 #[l9 rb] w λe w'=>∃u,e=.returned u/\w'.ownsRow w 60 2 u (mQ (F6 bss)).length ((mQ (F6 bss)).flatMap F9)/\Ext w w':=by
 obtain⟨n,K⟩:∃n,x.length=n:=⟨_,rfl⟩;obtain⟨sa,sc,M,T,hsc2,r,jo⟩:=id h;rw[K] at M T r jo hn;have y:(F6 bss).length=n:=by unfold F6;rw[bV];exact r
 have s:∀i,17*((F6 bss).getD i []).length<=1099511627776:=by
  intro i;rcases bH i bss.length with hi|hi
  ·rw[MS bss i hi];exact xn (hl i)
  ·rw[aT,ji (by rw[y];omega)];simp
 have hal:∀i m,i<n->m<=((F6 bss).getD i []).length->(Y8 (ahead (F6 bss) i m)).length<=4000000000000:=by intro i m hi O;have h1:=xo s i m aj O;have h2:=K' (ahead (F6 bss) i m);have h3:(i+1)*1099511627776<=60*1099511627776:=fH _ aj;omega
 have b1:=(M.cell 1).trans (show _=some (Value.slice sa n sc) from rfl);have H:=ah h;have qA:=ah jo;have HLL:=ah hl;have EI:=ah r;have N:=ah y;have JL:=ah hal;clear h jo hl K r M s y hal;unfold l9;go_enter func19,ntmps19
 go_wp2;go_loopw [3,4] (λu i wr=>∃k:Nat,i=.int .i64 k/\k<=n/\wr.ownsRow w 60 2 u (Y8 (ahead (F6 bss) k 0)).length ((Y8 (ahead (F6 bss) k 0)).flatMap F9)/\Ext w wr) (λ_ i _=>n - (intOf i).toNat)
 case atStart=>exact⟨0,rfl,aj,⟨rfl,Or.inl ⟨rfl,rfl⟩⟩,dh w⟩
 case round=>
  obtain⟨k,rfl,hk,l,B⟩:=hrel;obtain⟨ua0,uc0,rfl⟩:=ownsRow_form l;have Wu:=B.cell b1;by_cases hlt:k<n
  ·obtain⟨g,rfl,s0,-,u,s1,f⟩:=qA.out k hlt;obtain⟨ua,uc,rfl⟩:=f.slice;have hcp:=f.cap;have J:=B.cell s1;have hki:(k:Int)<(n:Int):=aj
   have p:=MS bss k (by have:=EI.out;omega);have S:=λm O=>JL.out k m hlt O;rw[p] at S;obtain⟨L,hL⟩:∃L,D7 (bss.getD k [])=L:=⟨_,rfl⟩;rw[hL] at f J hcp p S;unfold maxLen at hcp;have HSE:=ah p;have HA:=ah S;have HR:=ah f;have U:=ah B;have HO:=ah l;clear p S f B l s0 s1 hL;go_wp2_with fail
   go_loopw [3,5] (λu j v=>∃m:Nat,j=.int .i64 m/\m<=L.length/\v.ownsRow w 60 2 u (Y8 (ahead (F6 bss) k m)).length ((Y8 (ahead (F6 bss) k m)).flatMap F9)/\Ext wr v) (λ_ j _=>L.length - (intOf j).toNat)
   case atStart=>exact⟨0,rfl,aj,HO.out,dh wr⟩
   case round=>
    rename World=>v
    obtain⟨m,rfl,O,uD,o⟩:=hrel;obtain⟨va0,vc0,rfl⟩:=ownsRow_form uD;have b1i:=o.cell Wu;have s1i:=o.cell J;by_cases hml:m<L.length
    ·have R:L[m]?=some L[m]:=au hml;obtain⟨P,hP⟩:∃P,L[m]=P:=⟨_,rfl⟩;rw[hP] at R;obtain⟨gr,cap,hu,hcap,hcap2,hgl,a⟩:=ZG DG (HR.out.keep λb M=>(U.out.trans o).block b (HR.out.lt M)) R;injection hu with h1 h2 h3;subst h1;subst h3;have mw:(m:Int)<(L.length:Int):=aj
     have q0:=a 0 _ rfl;have q1:=a 1 _ rfl;have q2:=a 2 _ rfl;have q3:=a 3 _ rfl;have q4:=a 4 _ rfl;rw[iP] at q0;have C:=b76 (bY:=F6 bss) (i:=k) (m:=m) (q:=P) (by rw[HSE.out];exact R);have t:=put_any _ _ P.2 v (my uD) (HA.out m O);have HP:=ah t;have Nu:=ah C;have fR:=ah o;have hsz:w.heap.size<=v.heap.size:=(U.out.trans o).size;clear t C o a R hP uD;go_wp2_with fail
     refine HP.out.mono ?_;rintro e w2 ⟨u2,rfl,q,D⟩;have d:w2.ownsRow w 60 2 u2 (Y8 (ahead (F6 bss) k (m+1))).length ((Y8 (ahead (F6 bss) k (m+1))).flatMap F9)/\Ext wr w2:=by rw[Nu.out,b4x];exact⟨H6 q hsz,fR.out.trans D⟩
     have Q:=ah d;clear d q D;go_wp2_with fail
     go_roundw
     case rel=>exact⟨m+1,iE,aj,Q.out⟩
     case measure=>simp[intOf];omega
    ·obtain rfl:m=L.length:=aj
     have d:v.ownsRow w 60 2 (.slice va0 (Y8 (ahead (F6 bss) k L.length)).length vc0) (Y8 (ahead (F6 bss) (k+1) 0)).length ((Y8 (ahead (F6 bss) (k+1) 0)).flatMap F9)/\Ext w v:=by have e:=xy (bY:=F6 bss) (i:=k) (by rw[N.out];exact hlt);rw[HSE.out] at e;rw[<-e];exact⟨uD,U.out.trans o⟩
     have Q:=ah d;clear d uD o;go_wp2_with fail
     go_roundw
     case rel=>exact⟨k+1,iE,aj,Q.out⟩
     case measure=>simp[intOf];omega
  ·obtain rfl:k=n:=aj
   have d:wr.ownsRow w 60 2 (.slice ua0 (Y8 (ahead (F6 bss) k 0)).length uc0) (mQ (F6 bss)).length ((mQ (F6 bss)).flatMap F9)/\Ext w wr:=by have e:=xp (F6 bss);rw[N.out] at e;unfold mQ;rw[<-e];exact⟨l,B⟩
   have Q:=ah d;clear d l B;go_wp2_with fail
   exact bodyPost_ret (by simp[results,results19]) rfl ⟨_,rfl,Q.out⟩
theorem b7W{M:List (Nm×Nm)}(a:(M.map (·.1)).Nodup){p:Nm×Nm}(b:M[k]?=some p)(key:Nm):valOf (M.take (k+1)) key=if p.1=key then(p.2,true) else valOf (M.take k) key:=by
 have e:M.take (k+1)=M.take k++[p]:=by rw[cO,b];rfl
 by_cases h:p.1=key
 rw[if_pos h];have c:(M.take<|k+1)[k]?=some p:=by rw[pW aj];exact b
 unfold valOf;rw[<-h,Dy (a.sublist<|(zF _ _).map _) c]
 unfold valOf;unfold A7;grind
theorem c1o{F:tyP}{a sb H X:Nat}{D:D}{N:fC}{bss:fJ}{w:aB}{M:List (Nm×Nm)}(h:Ez w F a sb H D N bss)(G:mQ (F6 bss)=M)(l:w.ownsRow B 60 2 (.slice R M.length X) M.length (M.flatMap F9)){key:Nm}(hk:key.length<=maxLen):
 ∀c,f30.body=some c->c.wp prog (bodyPost prog f30 λe w'=>e=.returned (.bool true)/\Ext w w') ⟨#[l9 sb,.slice R M.length X,bJ key]++Array.replicate (f30.ntmps - 3) undef,[]⟩ w:=by
 have t:(M.map (·.1)).Nodup:=(eu.2 (G▸MP _)).imp (R:=λa b:Nm=>a<b) λh e=>by rw[e] at h;exact absurd h pV
 have f:=zd h hk;unfold LK at f;rw[G] at f;obtain⟨n,Q⟩:∃n,M.length=n:=⟨_,rfl⟩;have hn2:n<=9223372036854775807:=by
  rcases l.2 with⟨_,h⟩|⟨g,K,cur,hv,_,_,h1,h2,_⟩
  omega
  unfold maxLen at h2;omega
 have Y:=ah f;have HO:=ah h;have S:=ah l;have XW:=ah t;have P:=ah Q;clear h G f l t;rw[Q];clear Q;unfold l9 bJ at *;intro c s;obtain rfl:=aO s;clear s;simp only[ntmps30,Nat.reduceSub,iJ,iI,jA,iO,eF,List.cons_append];go_wp2_with fail
 refine Y.out.mono ?_;rintro e w1 ⟨rfl,o⟩;have m:=WZ .ok .nilIface w1 rfl (HO.out.ext o).La.get;have e3:Er.ok.code=0:=rfl;have Z:Er.ok.name=[]:=rfl;rw[e3,Z] at m;have J:=ah m;have T:=ah o;clear m o e3 Z Y;unfold bJ at J;go_wp2_with fail
 refine J.out.mono ?_;rintro e w2 ⟨rfl,u⟩;have v:=ah (T.out.trans u);clear J u T;obtain⟨V,O⟩:∃V,valOf M key=V:=⟨_,rfl⟩;have HV:=ah O;rw[O];clear O;go_wp2_with fail
 go_loopw [12,13,14] (λx y i wr=>∃k:Nat,i=.int .i64 k/\k<=n/\x=.string ⟨(valOf (M.take k) key).1.toArray⟩/\y=.bool (valOf (M.take k) key).2/\wr=w2) (λ_ _ i _=>n - (intOf i).toNat)
 case atStart=>exact⟨0,rfl,aj,rfl,rfl,rfl⟩
 case round=>
  obtain⟨k,rfl,hkn,rfl,rfl,rfl⟩:=hrel;by_cases I:k<n
  ·obtain⟨p,L⟩:∃p,M[k]?=some p:=⟨_,au (by rw[P.out];exact I)⟩;have j:=b7W XW.out L key;obtain⟨g,K,E,l1,-,-,q⟩:=Dh U4 (jH.row S.out wr λb hb=>v.out.block b (World.ownsRow.lt S.out b hb).2) L;rw[P.out] at E l1;injection E with E _ e3;subst E;subst e3;have x0:=q 0 _ rfl;have x1:=q 1 _ rfl;rw[iP] at x0;have hki:(k:Int)<(n:Int):=aj
   have z:=ah j;clear q L j;go_wp2_with fail
   rename_i s;have r:=z.out;rw[if_pos (eq_of_beq s)] at r;go_roundw
   case rel=>exact⟨k+1,iE,aj,by rw[r],by rw[r],qc⟩
   case measure=>simp[intOf];omega
   rename_i s;have r:=z.out;rw[if_neg (by simpa using s)] at r;go_roundw
   case rel=>exact⟨k+1,iE,aj,by rw[r],by rw[r],qc⟩
   case measure=>simp[intOf];omega
  obtain rfl:k=n:=aj
  rw[bU (by rw[P.out];omega),HV.out];go_wp2_with fail
  go_ret;exact⟨rfl,v.out⟩
def c4F{F:tyP}{a sb g:Nat}{D:D}{bss:fJ}{w:aB}{M:List (Nm×Nm)}(h:Ez w F a sb c D d bss)(k:mQ (F6 bss)=M)(b:w.ownsRow B 60 2 (.slice f M.length g) M.length (M.flatMap F9)){key:Nm}(i:key.length<=maxLen):
 Calls prog 30 #[l9 sb,.slice f M.length g,bJ key] w λe w'=>e=.returned (.bool true)/\Ext w w':=calls_of_wp func30 rfl<|c1o h k b i _ rfl
theorem b1W{B1 B2 c1 c2:Nat}{w:aB}{u1 u2:Option Addr}{M:List (Nm×Nm)}(h1:w.ownsRow B1 246 2 (.slice u1 M.length c1) M.length (M.flatMap F9))(h2:w.ownsRow B2 60 2 (.slice u2 M.length c2) M.length (M.flatMap F9)):
 Calls prog 132 #[.slice u1 M.length c1,.slice u2 M.length c2] w λe w'=>e=.returned (.bool true)/\Ext w w':=by
 obtain⟨n,hn⟩:∃n,M.length=n:=⟨_,rfl⟩;have hn2:n<=9223372036854775807:=by
  rcases h1.2 with⟨_,h⟩|⟨g,cap,cur,hv,_,_,h1,h2,_⟩
  ·omega
  ·unfold maxLen at h2;omega
 have H1:=ah h1;have H2:=ah h2;have HN:=ah hn;clear h1 h2;rw[hn];clear hn;go_enter func132,ntmps132
 go_wp2_with fail
 go_loopw [5] (λi wr=>∃k:Nat,i=.int .i64 k/\k<=n/\Ext w wr) (λi _=>n - (intOf i).toNat)
 case atStart=>exact⟨0,rfl,aj,dh w⟩
 case round=>
  obtain⟨k,rfl,hkn,hE⟩:=hrel;by_cases hlt:k<n
  ·obtain⟨p,hp⟩:∃p,M[k]?=some p:=⟨_,au (by rw[HN.out];exact hlt)⟩;obtain⟨g,cap,e1,l1,-,-,q⟩:=Dh U4 H1.out hp;obtain⟨g',cap',e1',k9,-,-,q'⟩:=Dh U4 H2.out hp;rw[HN.out] at e1 l1 e1' k9;injection e1 with e1 _ e3;injection e1' with e1' _ e3';subst e1;subst e3;subst e1';subst e3';have x0:=hE.cell (q 0 _ rfl);have x1:=hE.cell (q 1 _ rfl);have y0:=hE.cell (q' 0 _ rfl);have y1:=hE.cell (q' 1 _ rfl);rw[iP] at x0 y0;have hki:(k:Int)<(n:Int):=aj
   have HE:=ah hE;clear q q' hp hE;go_wp2_with fail
   go_quiet (fail)
   go_wp2_with fail
   go_roundw
   case rel=>exact⟨k+1,iE,aj,⟨HE.out.os,HE.out.tape,HE.out.output,HE.out.size,HE.out.block⟩⟩
   case measure=>simp[intOf];omega
  ·obtain rfl:k=n:=aj
   have HE:=ah hE;clear hE;go_wp2_with fail
   go_ret;exact⟨rfl,HE.out⟩
theorem ao{d:D}(hw:d.Wf)(hds:∀x∈d.ids,(d.node x).data.length<=c):∀p∈d.files,p.2.length<=c:=by intro p hp;unfold D.files at hp;obtain⟨n,hn,rfl⟩:=aQ.1 hp;obtain⟨b,hb⟩:=Ff d n hn;rw[hb];exact pd hw hds hb
section
variable{F:Nat->Prop}{a:Nat}{D:Dk.D}{w:World}{T:Array Value}
end
section
variable{F:Nat->Prop}{a:Nat}{D:Dk.D}{w:World}{T:Array Value}
end
section
variable{F:Nat->Prop}{a:Nat}{D:Dk.D}{w:World}{T:Array Value}
end
theorem tQ{r:Rec}(h:dec l=some r):r.key.length<=16:=by
 unfold dec at h;split at h
 ·rename_i hg;injection h with h;subst h;unfold good at hg;simp at hg;show((l.drop 16).take (F5 l)).length<=16;rw[dH];omega
 ·cases h
end Go.Proofs.YtgpbhjjajpbeeaaGreatDoor
