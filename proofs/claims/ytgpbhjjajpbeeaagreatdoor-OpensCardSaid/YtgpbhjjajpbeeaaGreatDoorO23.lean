/- A part of what the last file proves. -/
import Derived.Test.YtgpbhjjajpbeeaaGreatDoorO22
set_option linter.all false
set_option maxRecDepth 100000
set_option maxHeartbeats 6400000
open Go.Proofs.Tryz
namespace Go.Proofs.YtgpbhjjajpbeeaaGreatDoor
section
open Go.RowKit Go.Lib Go.Maps Dk Pl
attribute [local go_sem] Oper.semAt_some
def Keep(n₀:Nat)(W W':World):Prop:=Below n₀ W W'/\∀(b t:Nat)(cur:Array Value),t≠243->t≠246->W.heap[b]?=some (Obj.cells cur t (0,0))->W'.heap[b]?=some (Obj.cells cur t (0,0))
theorem c3O{n₀:Nat}{A B C:World}(h:Keep n₀ A B)(k:Keep n₀ B C):Keep n₀ A C:=⟨h.1.trans k.1,λb t cur n m e=>k.2 b t cur n m (h.2 b t cur n m e)⟩
theorem c3P{n₀:Nat}{w:World}(hn:n₀<=w.heap.size)(W:World)(l:Nat)(o o':Obj)(hl:w.heap.size<=l)(h:W.heap[l]?=some o)(h1:o.isCells=false)(h2:o.isWalk=false):Keep n₀ W (W.putObj l o'):=
 ⟨belowK_b hn W l o o' hl h h1 h2,λb t cur _ _ e=>(World.putObj_heap_other λe'=>by subst e';rw[h] at e;cases e;cases h1).trans e⟩
def Ze(p:Nm×Nm):Array Value:=#[encStr p.1,encStr p.2]
theorem all_in(F:Fence)(n:Nat)(h7:F.fn 167)(hro:F.round=none)(sb:Nat)(w:World):
 CallsIn F n prog 167 #[o7 sb] w λe w'=>e=.returned (.func (.func 191) #[] #[.pointer (some ⟨w.heap.size,0,none⟩)])/\w'=w.alloc (.cells #[o7 sb] 32):=by
 unfold o7;refine callsIn_of_wp func167 rfl h7 ?_ hro;simp only[ntmps167,f_,bV,fB,Nat.reduceAdd,Nat.reduceSub,eu,dZ,fF,eU,cO,List.cons_append];gi_wp2
 go_ret;exact⟨rfl,rfl⟩
theorem ym{jN:Nat->Prop}{a sb gen:Nat}{D:D}{ids:List Int}{bss:List (List UInt8)}{w0 w:World}(h:qw w0 jN a sb gen D ids bss)(hE:Ext w0 w)(n:Nat)(hn:5<=n){Bm:Nat}(hBm:Bm<w.heap.size)(hb:Boxed w Bm 32 (o7 sb))
 (hL:(U7 bss ids.length).length*16<=140737488355328)(hkl:∀p∈U7 bss ids.length,p.1.length<=maxLen):
 SeqStopsK Fence.wide n prog 191 #[.pointer (some ⟨Bm,0,none⟩)] Ze (Keep w0.heap.size) (λys=>ys=Y4 (D5 bss)) (λpre=>pre <+: Y4 (D5 bss)) (Y4 (D5 bss)).length w:=λl J Jx W hW hJ _ hY h0=>by
 have hro:Fence.wide.round=none:=rfl;have h1:1<=n:=by omega
 have f131:Fence.wide.fn 131:=trivial;have f22:Fence.wide.fn 22:=trivial;have Jy:Ext w0 W:=hE.trans hW;have hbW:Boxed W Bm 32 (o7 sb):=(hW.block Bm hBm).trans hb;have hbm:=hbW.cell;obtain⟨hn0,-⟩:=QO h.op;have hst:=(h.ext Jy).st.get;obtain⟨ia,ic,Cb,r,vv,hbx,-,-,hM,hbl⟩:=hst;have d4:=(hbx.cell 4).trans (show _=some (Value.map (some r)) from rfl);have hkeys:=keys_in (n - 1) (by omega) d4 hM hL hkl;have hks:=Ss hn0;rw[hks] at hkeys;obtain⟨M,Gn⟩:∃M,Y4 (D5 bss)=M:=⟨_,rfl⟩;have hsort:M.Pairwise (λa b=>a.1<b.1):=Gn▸QN _;have Jv:M.length*16<=140737488355328:=by
  have e:=congrArg List.length hks;rw[Gn] at e;simp only[List.length_mergeSort,b_] at e;have:(uf (U7 bss ids.length)).length<=(U7 bss ids.length).length:=by unfold uf;rw[b_];exact jZ _ _
  omega
 rw[Gn] at hkeys hY⊢;have hkm:∀p∈M,p.1.length<=maxLen:=λp hp=>by
  obtain⟨f,hf,-⟩:=Qu hn0 p (Gn▸hp);exact hkl _ (Ad hf)
 have hval:∀p∈M,valOf M p.1=(p.2,true):=λp hp=>by
  obtain⟨j,hj⟩:=dY hp;unfold valOf;rw[Af ((ig.2 hsort).imp (R:=λa b:Nm=>a<b) λh e=>by rw[e] at h;exact absurd h kF) hj]
 have Rz:=ah h;have HK:=ah hkeys;clear h hkeys hbx hM d4 hks hsort;unfold o7 at hbm HK;refine callsIn_of_wp func191 rfl trivial ?_ hro;simp only[ntmps191,f_,bV,fB,Nat.reduceAdd,Nat.reduceSub,eu,dZ,fF,eU,cO,List.cons_append];gi_wp2_with (gi_at_call 131;refine HK.out.mono ?_;rintro e w2 ⟨v,rfl,hrow,hE2⟩;obtain⟨va,vc,rfl⟩:=ownsRow_form hrow)
 have hb2:Boxed w2 Bm 32 (.pointer (some ⟨sb,0,none⟩)):=(hE2.block Bm hbW.lt).trans hbW;have hlm:(M.map (·.1)).length=M.length:=b_ _;have Yt:Ext w0 w2:=Jy.trans hE2;have hJ2:J [] w2:=hJ [] W w2 none h0 ⟨hE2.os,hE2.tape,hE2.output,hE2.size,λk hk _=>hE2.block k hk⟩ (λr e=>by cases e);rw[hlm] at hrow;have hblk:M.length=0\/∃g cur,va=some ⟨g,0,none⟩/\w2.heap[g]?=some (Obj.cells cur 9 (0,0))/\∀k,k<M.length->cur[k]?=(M.map λp=>encStr p.1)[k]?:=by
  rcases hrow.2 with⟨_,h0'⟩|⟨g,cap,cur,hv,_,hb',h1',h2',h3',h4'⟩
  ·exact .inl h0'
  ·injection hv with hv1 hv2 hv3;refine .inr ⟨g,cur,hv1,hb',λk hk=>?_⟩;have e:=congrArg (λl:List Value=>l[k]?) h4';simp only[qx,mY hk,jQ,dG] at e;exact e
 have HB:=ah hblk;have HV:=ah hval;have VX:=ah hkm;clear hrow hblk hval hkm HK hE2;gi_loopw [11] (λi wr=>∃k:Nat,i=.int .i64 k/\k<=M.length/\J (M.take k) wr/\Ext w0 wr/\∀(b t:Nat)(cur:Array Value),t≠243->t≠246->w2.heap[b]?=some (Obj.cells cur t (0,0))->wr.heap[b]?=some (Obj.cells cur t (0,0))) (λi _=>M.length - (intOf i).toNat)
 case atStart=>exact⟨0,rfl,by omega,hJ2,Yt,λ_ _ _ _ _ e=>e⟩
 case round=>
  obtain⟨k,rfl,hk,Ye,hEr,hrows⟩:=hrel;by_cases hlt:k<M.length
  ·obtain⟨p,hp⟩:∃p,M[k]?=some p:=⟨_,au hlt⟩;have hpm:=aJ hp;rcases HB.out with h|⟨g,cur,rfl,hgb,hcur⟩
   ·omega
   have hgr:=hrows g _ cur (by decide) (by decide) hgb;have hbr:=Boxed.cell (hrows Bm 32 _ (by decide) (by decide) hb2);have hck:wr.cell? ⟨g,k,none⟩=some (encStr p.1):=by
    have:=hcur k hlt;rw[aZ,hp] at this;simpa [World.cell?,hgr] using this
   have hget:=aM (Rz.out.ext hEr) (key:=p.1) (VX.out p hpm);unfold GX at hget;rw[Gn,HV.out p hpm] at hget;have hget:Calls prog 22 #[.pointer (some ⟨sb,0,none⟩),encStr p.1] wr λe w'=>e=.returned (.tuple #[encStr p.2,.bool true,.nilIface])/\Ext wr w':=hget;have htk:M.take (k+1)=M.take k++[p]:=by rw[dW,hp];rfl
   have HG:=ah hget;have HR:=ah hrows;have HER:=ah hEr;have HT:=ah htk;have hlI:(M.length:Int)<=8796093022208:=by omega
   clear hget hrows hgb hgr hcur hEr htk;gi_wp2_with (gi_at_call 22;refine(callsIn_wide.2 HG.out).mono ?_;rintro e w3 ⟨rfl,jX⟩;have hJ3:J (M.take k) w3:=hJ _ wr w3 none Ye ⟨jX.os,jX.tape,jX.output,jX.size,λi hi _=>jX.block i hi⟩ (λr e=>by cases e);obtain⟨fn,tmps,assign,body,hy,rl⟩:=hY (M.take k) p w3 hJ3 (by rw[bD];omega);unfold Ze at hy;have qG:=ah jX;clear jX)
   refine rl.mono ?_;rintro e w4 (⟨rfl,rx,hk4⟩|⟨rfl,Yd⟩)
   ·have RH:=ah hk4;clear hk4;gi_wp2
    go_roundw
    case rel=>exact⟨k+1,by go_num,by omega,by rw[HT.out];exact rx,Below.trans (HER.out.trans qG.out) RH.out.1,λb t cur n m e=>RH.out.2 b t cur n m ((qG.out.block b (by exact(aN.1 (HR.out b t cur n m e)).1)).trans (HR.out b t cur n m e))⟩
    case measure=>first|omega|(simp[intOf];omega)|(go_num;omega)
   ·gi_wp2
    refine bodyPost_ret (results_none rfl _ _ _) rfl ?_;exact⟨⟨_,rfl⟩,.inr ⟨M.take k++[p],by rw[<-HT.out];exact List.take_prefix _ _,Yd⟩⟩
  ·obtain rfl:k=M.length:=by omega
   rw[bG] at Ye;gi_wp2
   go_end0
   exact⟨⟨_,rfl⟩,.inl ⟨M,rfl,Ye⟩⟩
end
section
open Go.RowKit Go.Lib Go.Maps Dk Pl
attribute [local go_sem] Oper.semAt_some
theorem b0n{W w1:World}{n₀ B:Nat}{v v':Value}{k:Nat}{xs:List Value}{tmp:Obj}(hrow:W.ownsRow n₀ 246 2 v k xs)(hv1:Boxed w1 B 243 v)(hgrow:(W.alloc tmp).grownBy w1 v.ownBlock)(hb:Below n₀ W (w1.setCell ⟨B,0,none⟩ v')):Keep n₀ W (w1.setCell ⟨B,0,none⟩ v'):=
 ⟨hb,λb t cur ht1 ht2 e=>by
  have hbl:b<W.heap.size:=(aN.1 e).1;have hne:some b≠v.ownBlock:=by
   rcases hrow.2 with⟨rfl,_⟩|⟨g,cap,c,rfl,_,hgb,_⟩
   ·simp[Value.ownBlock]
   ·intro e';have e'':b=g:=by simpa [Value.ownBlock] using e'
    rw[e'',hgb] at e;cases e;exact ht2 rfl
  have e2:=(hgrow.block b (by simp;omega) hne).trans ((Below.heap_alloc W tmp b hbl).trans e);refine((grownBy_setCell' w1 B v').block b (aN.1 e2).1 λe'=>?_).trans e2;have e'':b=B:=by injection e'
  rw[e'',show w1.heap[B]?=_ from hv1] at e2;cases e2;exact ht1 rfl⟩
theorem cell_two_new(w:World)(x y:Value)(t:TypeId):∀j u,[x,y][j]?=some u->(w.alloc (.cells #[x,y] t)).cell? ((⟨w.heap.size,0,none⟩:Addr).add j)=some u:=by
 intro j u hj
 match j,hj with
 | 0,hj=>simp at hj;subst hj;simp[Addr.add]
 | 1,hj=>simp at hj;subst hj;simp[Addr.add]
def JD(N:Int)(M:List (Nm×Nm)):List (Nm×Nm):=if N<0 then M else M.take N.toNat
theorem b5D:(prog.info? 246).map (λi=>(i.zero,i.size,i.bytes))=some (some (.agg #[.string ⟨#[]⟩,.string ⟨#[]⟩]),2,32):=by kernel_rfl
theorem collect_in(n:Nat)(hn:9<=n){jN:Nat->Prop}{a sb gen:Nat}{D:D}{ids:List Int}{bss:List (List UInt8)}{w:World}(h:qw w jN a sb gen D ids bss)(hL:(U7 bss ids.length).length*16<=140737488355328)(Jv:(Y4 (D5 bss)).length*32<=140737488355328)
 (hkl:∀p∈U7 bss ids.length,p.1.length<=maxLen){N:Int}(hN:-9223372036854775808<=N/\N<=9223372036854775807)(hN0:N≠0):
 CallsIn Fence.wide n prog 130 #[o7 sb,.int .i64 N] w λe w'=>∃v,e=.returned v/\w'.ownsRow w.heap.size 246 2 v (JD N (Y4 (D5 bss))).length ((JD N (Y4 (D5 bss))).flatMap G5)/\Ext w w':=by
 have h1:1<=n:=by omega
 have hro:Fence.wide.round=none:=rfl;have f167:Fence.wide.fn 167:=trivial;have f191:Fence.wide.fn 191:=trivial;obtain⟨i0,hi,hz0,hz1,hz2⟩:=info_parts b5D;have pA:=λ(w3:World)(Bm:Nat)(hE:Ext w w3)(hBm:Bm<w3.heap.size)(hb:Boxed w3 Bm 32 (o7 sb))=>ym h hE (n - 1) (by omega) hBm hb hL hkl;clear h hL hkl;obtain⟨M,Gn⟩:∃M,Y4 (D5 bss)=M:=⟨_,rfl⟩;rw[Gn] at pA Jv⊢;unfold o7 at *;refine callsIn_of_wp_marks func130 rfl trivial ?_ hro;simp only[ntmps130,f_,bV,fB,Nat.reduceAdd,Nat.reduceSub,eu,dZ,fF,eU,cO,List.cons_append];have hEq:(N==0)=false:=by simpa using hN0
 gi_wp2_with (gi_at_call 167;refine(all_in Fence.wide (n - 1) f167 hro _ _).mono ?_;rintro e w' ⟨rfl,rfl⟩)
 unfold o7;have bN:=Boxed.new w 3 (.int .i64 N);have bL:=Boxed.new (w.alloc (.cells #[.int .i64 N] 3)) 243 (.slice none 0 0);have bM:=Boxed.new ((w.alloc (.cells #[.int .i64 N] 3)).alloc (.cells #[.slice none 0 0] 243)) 32 (.pointer (some ⟨sb,0,none⟩));rw[World.size_alloc] at bL;rw[World.size_alloc,World.size_alloc] at bM;have jX:Ext w (((w.alloc (.cells #[.int .i64 N] 3)).alloc (.cells #[.slice none 0 0] 243)).alloc (.cells #[.pointer (some ⟨sb,0,none⟩)] 32)):=(((Ext.refl w).new _).new _).new _;have vd:=(bN.alloc (.cells #[.slice none 0 0] 243)).alloc (.cells #[.pointer (some ⟨sb,0,none⟩)] 32);have vh:=bL.alloc (.cells #[.pointer (some ⟨sb,0,none⟩)] 32);obtain⟨w3,hw3⟩:∃w3,((w.alloc (.cells #[.int .i64 N] 3)).alloc (.cells #[.slice none 0 0] 243)).alloc (.cells #[.pointer (some ⟨sb,0,none⟩)] 32)=w3:=⟨_,rfl⟩;have hs3:w3.heap.size=w.heap.size+1+1+1:=by rw[<-hw3];simp
 rw[hw3] at bM jX vd vh⊢;clear bN bL hw3;refine wpIn_rangeFunc_ownG hro h1 (gf:=191) (lb:=#[.pointer (some ⟨w.heap.size+1+1,0,none⟩)]) rfl f191 (enters_of func191 (by kernel_rfl) rfl)
  (pA w3 (w.heap.size+1+1) jX (by omega) bM) c3O (c3P (by omega)) (Below.refl _ _) (λ_=>rfl)
  (λpre W=>((∃v,Boxed W (w.heap.size+1) 243 v/\W.ownsRow w.heap.size 246 2 v pre.length (pre.flatMap G5)/\(N<0\/(pre.length:Int)<N))/\Boxed W w.heap.size 3 (.int .i64 N))/\Below w.heap.size w W)
  (λc pre W=>((∃v,Boxed W (w.heap.size+1) 243 v/\W.ownsRow w.heap.size 246 2 v pre.length (pre.flatMap G5)/\(c=.exit 0/\(pre.length:Int)=N))/\Boxed W w.heap.size 3 (.int .i64 N))/\Below w.heap.size w W)
  (OwnFrom.and (Own.from (λs A B row hs hg hr=>⟨holdsRow_own w.heap.size (w.heap.size+1) 243 246 2 (λpre:List (Nm×Nm)=>pre.length) (λpre=>pre.flatMap G5) (λpre _=>N<0\/(pre.length:Int)<N) s A B row hs.1 hg hr,boxed_own w.heap.size 3 (λ_:List (Nm×Nm)=>.int .i64 N) s A B row hs.2 hg hr⟩) _) (ownFrom_below (aj _) (by omega)))
  (λc=>OwnFrom.and (Own.from (λs A B row hs hg hr=>⟨holdsRow_own w.heap.size (w.heap.size+1) 243 246 2 (λpre:List (Nm×Nm)=>pre.length) (λpre=>pre.flatMap G5) (λpre _=>c=.exit 0/\(pre.length:Int)=N) s A B row hs.1 hg hr,boxed_own w.heap.size 3 (λ_:List (Nm×Nm)=>.int .i64 N) s A B row hs.2 hg hr⟩) _) (ownFrom_below (aj _) (by omega)))
  ⟨⟨⟨_,vh,World.ownsRow_nil _ _ _ _,by simp;omega⟩,vd⟩,jX⟩
  (λx=>{tmps:=#[.pointer (some ⟨sb,0,none⟩),.int .i64 N,undef,.pointer (some ⟨w.heap.size,0,none⟩),.slice none 0 0,.pointer (some ⟨w.heap.size+1,0,none⟩),encStr x.1,encStr x.2,.int .i64 N,.bool false,undef,.pointer (some ⟨sb,0,none⟩),.func (.func 191) #[] #[.pointer (some ⟨w.heap.size+1+1,0,none⟩)],encStr x.1,encStr x.2,undef,undef,undef,undef,undef,undef,undef,undef,undef,undef,undef],defers:=[]}) ?assign ?body ?done ?stop
 case assign=>
  intro l x W K hK;unfold Ze;gi_wp2
  exact hK
 case body=>
  rintro l pre x W ⟨⟨⟨v,hv,hrow,hlen⟩,hn3⟩,hB⟩ hlt;have hc:=hv.cell;have hcn:=hn3.cell;have hsz:=hB.size;gi_wp2_with (gi_at_builtin;refine wpListIn_append_own _ rfl _ _ 243 rfl w.heap.size 246 i0 (.agg #[.string ⟨#[]⟩,.string ⟨#[]⟩]) 2 32 underlying243 hi hz0 hz1 hz2 rfl (by decide) _ _ _ rfl (hrow.alloc _) ⟨W.heap.size,0,none⟩ 1 1 [encStr x.1,encStr x.2] rfl rfl (cell_two_new _ _ _ _) (by simp[Value.oneCell']) (by unfold maxLen;omega) (by omega) (by simp;omega) ?_;intro v' w1' hown' hgrow _;obtain⟨g',cap',rfl⟩:=ownsRow_succ hown';obtain⟨hv1,hv2,hr2,hk2,hb2⟩:=hv.appended (by decide) hrow hsz (by omega) hown' hgrow;have hc1:=hv1.cell;have hf1:=hv1.frozen;have hc2:=hv2.cell;have hkp:=b0n (v':=.slice (some ⟨g',0,none⟩) (pre.length+1) cap') hrow hv1 hgrow hb2;have hn4:Boxed _ w.heap.size 3 (.int .i64 N):=hkp.2 _ 3 _ (by decide) (by decide) hn3;have qi:=hn4.cell;have HKP:=ah hkp;have HR2:=ah hr2;clear hkp hr2 hgrow hown')
  ·rename_i hx;have hx':(pre.length:Int)+1=N:=by simpa using hx
   exact⟨hk2.from _,⟨⟨_,hv2,by simpa [G5] using HR2.out,rfl,by rw[aC,oM];omega⟩,hn4⟩,hB.trans hb2⟩
  ·rename_i hx;have hx':¬(pre.length:Int)+1=N:=by simpa using hx
   exact⟨hk2.from _,HKP.out,⟨⟨_,hv2,by simpa [G5] using HR2.out,by rw[aC,oM];omega⟩,hn4⟩,hB.trans hb2⟩
 case done=>
  rintro D ys W hD rfl ⟨⟨⟨v,hv,hrow,hlen⟩,-⟩,hB⟩ hK;have hc:=hv.cell;gi_wp2
  refine⟨by simp,.inl ⟨_,_,rfl,run_takeDeferred hK,?_⟩⟩;have hcut:JD N ys=ys:=by
   unfold JD;split
   ·rfl
   ·rw[eG (by omega)]
  rw[hcut];exact⟨_,results_tmp rfl _ _ _,v,rfl,ownsRow_putObj hrow _ hK rfl,hB.trans (belowK_b (w:=w) (aj _) W D _ _ (by omega) hK rfl rfl)⟩
 case stop=>
  rintro D c pre W hD hpre ⟨⟨⟨v,hv,hrow,rfl,hlen⟩,-⟩,hB⟩ hK;have hc:=hv.cell;gi_wp2
  refine⟨by simp,.inl ⟨_,_,rfl,run_takeDeferred hK,?_⟩⟩;have hcut:JD N M=pre:=by
   unfold JD;rw[if_neg (by omega),<-hlen,iw];exact(List.prefix_iff_eq_take.1 hpre).symm
  rw[hcut];exact⟨_,results_tmp rfl _ _ _,v,rfl,ownsRow_putObj hrow _ hK rfl,hB.trans (belowK_b (w:=w) (aj _) W D _ _ (by omega) hK rfl rfl)⟩
end
section
open Go.RowKit Go.Lib Go.Maps Dk Pl
end
section
open Go.RowKit Go.Lib Go.Maps Dk Pl
end
section
open Go.RowKit Go.Lib Go.Maps Dk Pl
end
section
open Go.RowKit Go.Lib Go.Maps Dk Pl
theorem ZU{d:D}(hw:d.Wf){c:Nat}(hds:∀x∈d.ids,(d.node x).data.length<=c):∀p∈d.files,p.2.length<=c:=by
 intro p hp;unfold D.files at hp;obtain⟨n,hn,rfl⟩:=bg.1 hp;obtain⟨b,hb⟩:=M1 d n hn;rw[hb];exact AG hw hds hb
theorem slot{T:Array Value}{i:Nat}{v:Value}(h:T[i]?=some v):∃h:i<T.size,T[i]=v:=aN.1 h
section
variable{F:Nat->Prop}{a:Nat}{D:Dk.D}{w:World}{T:Array Value}
end
end
section
open Go.RowKit Go.Lib Go.Maps Dk Pl
end
section
open Go.RowKit Go.Lib Go.Maps Dk Pl
section
variable{F:Nat->Prop}{a:Nat}{D:Dk.D}{w:World}{T:Array Value}
end
end
section
open Go.RowKit Go.Lib Go.Maps Dk Pl
end
section
open Go.RowKit Go.Lib Go.Maps Dk Pl
end
section
open Go.RowKit Go.Lib Go.Maps Dk Pl
section
variable{F:Nat->Prop}{a:Nat}{D:Dk.D}{w:World}{T:Array Value}
end
end
section
open Go.RowKit Go.Lib Go.Maps Dk Pl
end
section
open Go.RowKit Go.Lib Go.Maps Dk Pl
theorem Zu{l:List UInt8}{r:Rec}(h:dec l=some r):r.key.length<=16:=by
 unfold dec at h;split at h
 ·rename_i hg;injection h with h;subst h;unfold good at hg;simp at hg;show((l.drop 16).take (D9 l)).length<=16;rw[bD];omega
 ·cases h
end
section
open Go.RowKit Go.Lib Go.Maps Dk Pl
theorem wQ{w w':World}{B:Nat}{e:TypeId}{k:Nat}{v:Value}{n:Nat}{xs:List Value}(h:w.ownsRow B e k v n xs)(hE:Ext w w'):w'.ownsRow B e k v n xs:=iV.row h w' λb hb=>hE.block b (World.ownsRow.lt h b hb).2
theorem ID(p:Nm×Nm)(w:World):(binOp .neq 246 (.agg #[.string ⟨p.1.toArray⟩,.string ⟨p.2.toArray⟩]) (.agg #[.string ⟨p.1.toArray⟩,.string ⟨p.2.toArray⟩])).run prog w=.ok (.bool false) w:=by
 have key:(Op.equalIn 10000 246 (.agg #[.string ⟨p.1.toArray⟩,.string ⟨p.2.toArray⟩]) (.agg #[.string ⟨p.1.toArray⟩,.string ⟨p.2.toArray⟩])).run prog w=.ok true w:=by
  rw[show(10000:Nat)=9999+1 from rfl,run_equalIn_struct w 9999 246 _ _ (by kernel_rfl) (by kernel_rfl)];simp only[Program.fieldsOf,underlying246];go_simp
 simp[binOp,Op.equal,Op.maxDepth,key]
theorem c1A{w:World}{F:Nat->Prop}{B k n:Nat}{e:TypeId}{v:Value}{xs:List Value}(h:w.ownsRow B e k v n xs)(hF:∀b,v.ownBlock=some b->¬F b):Held w F (λW=>W.ownsRow B e k v n xs):=.of (iV.row h) λb hb=>⟨(World.ownsRow.lt h b hb).2,hF b hb⟩
theorem b8K{K:Nat->Prop}{wc wr wb:World}{gk n ck base:Nat}{xs:List Value}{M:List (Nm×Nm)}{k:Nat}(hC:fA K K wc wr)(hE:Ext wr wb)(nq:Nat)(hrow:wr.ownsRow base 9 1 (.slice (some ⟨gk,0,none⟩) n ck) n xs)(hK:K gk)(hxs:∀j,k<=j->xs[j]?=(M[j]?).map λp=>bC p.1)(u:Value):
 fA K K wc ((wb.drewN nq).setCell ⟨gk,k,none⟩ u)/\∃ys,((wb.drewN nq).setCell ⟨gk,k,none⟩ u).ownsRow base 9 1 (.slice (some ⟨gk,0,none⟩) n ck) n ys/\∀j,k+1<=j->ys[j]?=(M[j]?).map λp=>bC p.1:=by
 have hE2:Ext wr (wb.drewN nq):=hE.trans (Ext.drewN wb nq);obtain⟨h1,h2⟩:=(wQ hrow hE2).stored k u;refine⟨hC.trans ((fA.ext hE2).trans ⟨h2.os,h2.tape,h2.output,h2.size,λb hb hn=>h2.block b hb λe=>hn ?_,λ_ h=>.inl h⟩),_,h1,λj hj=>?_⟩
 ·injection e with e;exact e▸hK
 ·rw[List.getElem?_set_ne (by omega)];exact hxs j (by omega)
theorem b8L{F:Nat->Prop}{a sb rb gen:Nat}{D:D}{ids:List Int}{bss:List (List UInt8)}{w:World}(h:qw w F a sb gen D ids bss)(hr:wK w rb gen ids bss)(hL:(U7 bss ids.length).length*16<=140737488355328)(Jv:(Y4 (D5 bss)).length*32<=140737488355328)(hkl:∀p∈U7 bss ids.length,p.1.length<=maxLen)(hn:ids.length<=60):
 Calls prog 74 #[o7 sb,o7 rb] w λe w'=>e=.returned (.bool true)/\Ext w w':=by
 have hall:∀P∈Y4 (D5 bss),P.1.length<=maxLen:=λP hP=>by
  obtain⟨f,hf1,hf2,hf3⟩:=Qu (QO h.op).1 P hP;obtain⟨hfn,hfm,hfk⟩:=Zt hf1;have:=Zu (QF hfm);rw[hfk] at this;unfold maxLen;omega
 have hnd:((Y4 (D5 bss)).map (·.1)).Nodup:=(ig.2 (QN _)).imp (R:=λa b:Nm=>a<b) λh e=>by rw[e] at h;exact absurd h kF
 have hmap:=Nn rb gen ids bss w hr hn h.small;obtain⟨hn0,-⟩:=QO h.op;have hks:=Ss hn0;obtain⟨M,hM⟩:∃M,Y4 (D5 bss)=M:=⟨_,rfl⟩;have FU:=λ(w1:World)(hE:Ext w w1)(N:Int)(hN:-9223372036854775808<=N/\N<=9223372036854775807)(h0:N≠0)=>callsIn_wide.1 (collect_in 9 (aj _) (h.ext hE) hL Jv hkl hN h0);have hkeys:∀w1:World,Ext w w1->Calls prog 131 #[o7 sb] w1 λe w'=>∃v,e=.returned v/\w'.ownsRow w1.heap.size 9 1 v (M.map (·.1)).length ((M.map (·.1)).map bC)/\Ext w1 w':=λw1 hE=>by
  obtain⟨ia,ic,Cb,r,vv,hbx,-,-,hLa,-⟩:=(h.ext hE).st.get;have d4:=(hbx.cell 4).trans (show _=some (Value.map (some r)) from rfl);have:=callsIn_wide.1 (keys_in 3 (aj _) d4 hLa hL hkl);rwa [hks,hM] at this
 rw[hM] at hmap FU Jv hall hnd;have Dx:=ah hall;have VT:=ah hnd;clear hall hnd;have RG:=ah hmap;have Iz:=ah FU;have EW:=ah hkeys;have H:=ah h;have HR0:=ah hr;have HM:=ah hM;clear hmap FU hkeys h hr hM hks hL hkl;unfold o7 at *;go_enter func74,ntmps74
 go_wp2_with fail
 refine RG.out.mono ?_;rintro e w1 ⟨m,rfl,hm1,hE1⟩;have hc:=Iz.out w1 hE1 (-1) (by omega) (by decide);have HC:=ah hc;have Dp:=ah hm1;have lV:=ah hE1;clear hc hm1 hE1;go_wp2_with fail
 refine HC.out.mono ?_;rintro e w2 ⟨l,rfl,hl2,hE2⟩;have NH:w2.ownsRow w1.heap.size 246 2 l M.length (M.flatMap G5):=hl2;have HE2:=ah (lV.out.trans hE2);have hm2:=wQ Dp.out hE2;have hc:=Iz.out w2 HE2.out 2 (by omega) (by decide);have HC2:=ah hc;have fp:=ah hm2;have HL2:=ah NH;clear hc hl2 NH hm2 hE2 HC Dp lV;go_wp2_with fail
 refine HC2.out.mono ?_;rintro e w3 ⟨few,rfl,hf3,jX⟩;have NV:w3.ownsRow w2.heap.size 246 2 few (M.take 2).length ((M.take 2).flatMap G5):=hf3;have qG:=ah (HE2.out.trans jX);have hs3:w.heap.size<=w3.heap.size:=qG.out.size;have hk:=EW.out w3 qG.out;have HK:=ah hk;have fk:=ah (wQ fp.out jX);have zQ:=ah (wQ HL2.out jX);have HF3:=ah NV;clear hk hf3 NV jX HC2 fp HL2 HE2;go_wp2_with fail
 refine HK.out.mono ?_;rintro e w4 ⟨kv,rfl,hk4,mW⟩;have xI:=ah (qG.out.trans mW);have hm4:=wQ fk.out mW;have hl4:=wQ zQ.out mW;have hf4:=wQ HF3.out mW;obtain⟨ma,mc,rfl⟩:=ownsRow_form hm4;obtain⟨la,lc,rfl⟩:=ownsRow_form hl4;obtain⟨fa,fc,rfl⟩:=ownsRow_form hf4;obtain⟨ka,kc,rfl⟩:=ownsRow_form hk4;have hsp:=b0o hl4 hm4;have d_:=ah hsp;have fi:=ah hm4;have VU:=ah hl4;have io:=ah hf4;have RH:=ah hk4;clear hsp hm4 hl4 hf4 hk4 mW HK fk zQ HF3 qG;go_wp2_with fail
 refine d_.out.mono ?_;rintro e w5 ⟨rfl,mg⟩;have r_:=ah (xI.out.trans mg);have HM5:=ah (wQ fi.out mg);have HL5:=ah (wQ VU.out mg);have gw:=ah (wQ io.out mg);have gh:=ah (wQ RH.out mg);clear mg fi VU io RH d_ xI;obtain⟨n,hnn⟩:∃n,M.length=n:=⟨_,rfl⟩;obtain⟨q,hq⟩:∃q,(M.take 2).length=q:=⟨_,rfl⟩;have nu:q=2/\2<=n\/q=n/\n<2:=by rw[bD,hnn] at hq;omega
 have hq2:min 2 n=q:=by rw[<-hq,bD,hnn]
 have hn2:(n:Int)<=4398046511104:=by omega
 have hkm:(M.map (·.1)).length=n:=by rw[b_];exact hnn
 have HN:=ah hnn;have HQ:=ah hq;have VX:=ah hkm;simp only[hnn,hq2];clear hnn hq hkm Jv hq2;go_upto_region 6 with fail
 go_cut [58] (λv wx=>v=.bool false/\wx=w5)
 case first=>
  rcases nu with⟨rfl,h2⟩|⟨rfl,h2⟩;all_goals
   go_wp2_with fail
   go_meet
   exact⟨by first|rfl|(congr 1;simp;omega),rfl⟩
 case rest=>
  obtain⟨rfl,rfl⟩:=hcut;have hk5:=gh.out;rw[VX.out] at hk5;obtain⟨K,SE⟩:∃K:Nat->Prop,K=λb=>(Value.slice ka n kc).ownBlock=some b:=⟨_,rfl⟩;have pe:∀b,K b->w.heap.size<=b:=λb hb=>ay hs3 (World.ownsRow.lt hk5 b (by rw[SE] at hb;exact hb)).1;have nk:∀{B1 s1 n1:Nat}{e1:TypeId}{v1:Value}{x1:List Value},wc.ownsRow B1 e1 s1 v1 n1 x1->e1≠9->Held wc K (λW=>W.ownsRow B1 e1 s1 v1 n1 x1):=λh ne=>c1A h (by rw[SE];exactλb hb=>zB h hk5 ne hb);have KM:=ah (nk HM5.out (by decide));have KL:=ah (nk HL5.out (by decide));have KF:=ah (nk gw.out (by decide));have KW:=ah pe;have KE:=ah SE;have KK:=ah hk5;clear hk5 pe SE nk gh;go_wp2_with fail
  go_loopw [10] (λi wr=>∃k:Nat,i=.int .i64 k/\k<=n/\fA K K wc wr/\∃xs,wr.ownsRow w3.heap.size 9 1 (.slice ka n kc) n xs/\∀j,k<=j->xs[j]?=(M[j]?).map (λp=>bC p.1)) (λi _=>n - (intOf i).toNat)
  case atStart=>exact⟨0,rfl,by omega,fA.refl K wc,_,KK.out,λj _=>by rw[jQ,aZ];rfl⟩
  case round=>
   obtain⟨k,rfl,hk,hC,xs,hrow,hxs⟩:=hrel;by_cases hlt:k<n
   ·obtain⟨P,hp⟩:∃P,M[k]?=some P:=⟨_,au (by rw[HN.out];exact hlt)⟩;have hO:=H.out.ext (((fA.ext r_.out).trans hC).toExt KW.out);have hget:=aM hO (Dx.out P (aJ hp));unfold GX at hget;rw[HM.out,show valOf M P.1=(P.2,true) by unfold valOf;rw[Af VT.out hp]] at hget;obtain⟨gm,cm,e1,-,-,-,qm⟩:=Hr Z4 (KM.out.step hC).get hp;obtain⟨gl,cl,e2,-,-,-,ql⟩:=Hr Z4 (KL.out.step hC).get hp;rw[HN.out] at e1 e2;injection e1 with e1 _ e3;subst e1;subst e3;injection e2 with e2 _ e3;subst e2;subst e3;obtain⟨gk,ck,e3,-⟩:=hrow.form (by omega);injection e3 with e3 _ e4;subst e3;subst e4;have y:=hrow.cellAt k (by omega);rw[hxs k (aj k),hp] at y;replace y:wr.cell? ⟨gk,k,none⟩=some (.string ⟨P.1.toArray⟩):=y;have m0:=qm 0 _ rfl;have m1:=qm 1 _ rfl;have l0:=ql 0 _ rfl;have l1:=ql 1 _ rfl;rw[jw] at m0 l0;have hf:k<q->∃gf cf,fa=some ⟨gf,0,none⟩/\fc=cf/\wr.cell? ⟨gf,k*2,none⟩=some (.string ⟨P.1.toArray⟩)/\wr.cell? ⟨gf,k*2+1,none⟩=some (.string ⟨P.2.toArray⟩):=λhq=>by
     obtain⟨gf,cf,e4,-,-,-,qf⟩:=Hr Z4 (KF.out.step hC).get (k:=k) (t:=P) (by rw[mY (by omega)];exact hp);injection e4 with e4 _ e5;exact⟨gf,cf,e4,e5,qf 0 _ rfl,qf 1 _ rfl⟩
    have hki:(k:Int)<(n:Int):=by omega
    have HG:=ah hget;have HR:=ah hrow;have HX:=ah hxs;have HC:=ah hC;have HO:=ah hO;have HF:=ah hf;clear hget hrow hxs hC hO hp qm ql hf;unfold o7 bC at HG;go_wp2_with fail
    refine HG.out.mono ?_;rintro e wa ⟨rfl,hEa⟩;have htl:=Qs .ok .nilIface wa rfl (HO.out.ext hEa).La.get;rw[show Er.ok.code=0 from rfl,show Er.ok.name=[] from rfl] at htl;have rZ:=ah htl;have zT:=ah hEa;clear htl hEa HG;unfold bC at rZ;go_wp2_with fail
    refine rZ.out.mono ?_;rintro e wb ⟨rfl,pE⟩;have hE:=zT.out.trans pE;have m0:=hE.cell m0;have m1:=hE.cell m1;have l0:=hE.cell l0;have l1:=hE.cell l1;have y:=hE.cell y;have hne:=λwx=>ID P wx;have hfr:=(wQ HR.out hE).frozenAt k;have HE:=ah hE;have HS:=ah (b8K (M:=M) HC.out hE · HR.out (by rw[KE.out];rfl) HX.out);clear hE pE rZ zT;by_cases hq:k<q
    ·have hqi:(k:Int)<(q:Int):=by omega
     obtain⟨gf,cf,rfl,rfl,f0,f1⟩:=HF.out hq;have f0:=HE.out.cell f0;have f1:=HE.out.cell f1;go_wp2_with fail
     go_quiet (fail)
     go_wp2_with fail
     go_roundw
     case rel=>exact⟨k+1,by go_num,by omega,HS.out _ _⟩
     case measure=>simp[intOf];omega
    ·have hqi:¬(k:Int)<(q:Int):=by omega
     go_wp2_with fail
     go_quiet (fail)
     go_wp2_with fail
     go_roundw
     case rel=>exact⟨k+1,by go_num,by omega,HS.out _ _⟩
     case measure=>simp[intOf];omega
   ·obtain rfl:k=n:=by omega
    have hE:=((fA.ext r_.out).trans hC).toExt KW.out;have HE:=ah hE;have ff:=ah (KM.out.step hC).get;have ei:=ah (HR0.out.ext hE);have HOr:=ah (H.out.ext hE);have hgt:∀(wx:World),Ext wr wx->∀key:Nm,key.length<=maxLen->Calls prog 30 #[o7 sb,.slice ma k mc,bC key] wx λe w'=>e=.returned (.bool true)/\Ext wx w':=λwx hx key hk=>by
     have:=c1u (HOr.out.ext hx) HM.out (wQ ff.out hx) hk;rwa [HN.out] at this
    obtain⟨sa,sc,hb,-,-,-,lq⟩:=ei.out;obtain⟨N,hNN⟩:∃N,ids.length=N:=⟨_,rfl⟩;rw[hNN] at hb lq;have b1:=(hb.cell 1).trans (show _=some (Value.slice sa N sc) from rfl);have zN:=ah lq;have VY:=ah hgt;rw[hNN] at hn;clear hE hC hxs hrow KL KF KK Dx KM hb lq hgt ff ei HOr RG Iz EW H HR0 HM VT hNN HQ VX KW KE hn0 nu hs3;unfold o7 bC at VY;go_wp2_with fail
    go_loopw [16] (λi wx=>∃j:Nat,i=.int .i64 j/\j<=N/\Ext wr wx) (λi _=>N - (intOf i).toNat)
    case atStart=>exact⟨0,rfl,by omega,Ext.refl wr⟩
    case round=>
     rename World=>wx
     obtain⟨j,rfl,hj,jg⟩:=hrel;have b1x:=jg.cell b1;by_cases hjl:j<N
     ·obtain⟨g,rfl,s0,-,u,s1,hrow⟩:=zN.out j hjl;obtain⟨ua,uc,rfl⟩:=hrow.slice;have hcp:=hrow.cap;have lR:=jg.cell s1;have hji:(j:Int)<(N:Int):=by omega
      have hdk:∀P∈N7 (bss.getD j []),P.2.key.length<=maxLen:=λP hP=>by
       have:=Zu (QF hP);unfold maxLen;omega
      generalize N7 (bss.getD j [])=L at hrow lR hcp hdk;unfold maxLen at hcp;have lV:=ah jg;have HRW:=ah hrow;have HDK:=ah hdk;clear jg hrow hdk s0 s1;go_wp2_with fail
      go_loopw [17] (λi wy=>∃m:Nat,i=.int .i64 m/\m<=L.length/\Ext wx wy) (λi _=>L.length - (intOf i).toNat)
      case atStart=>exact⟨0,rfl,by omega,Ext.refl wx⟩
      case round=>
       rename World=>wy
       obtain⟨m,rfl,hm,Eb⟩:=hrel;have b1y:=Eb.cell b1x;have s1y:=Eb.cell lR;by_cases hml:m<L.length
       ·obtain⟨P,hp⟩:∃P,L[m]?=some P:=⟨_,au hml⟩;obtain⟨gr,cap,hu,hcap,hcap2,hgl,hcells⟩:=Zw R7 (HRW.out.keep λb hb=>(lV.out.trans Eb).block b (HRW.out.lt hb)) hp;injection hu with h1 h2 h3;subst h1;subst h3;have nF:(m:Int)<(L.length:Int):=by omega
        have q1:=hcells 1 _ rfl;have hg:=VY.out wy (lV.out.trans Eb) P.2.key (HDK.out P (aJ hp));have HG:=ah hg;have gA:=ah Eb;clear hg Eb hcells hp;go_wp2_with fail
        refine HG.out.mono ?_;rintro e w2 ⟨rfl,hE2⟩;have HE2:=ah hE2;clear hE2 HG;go_wp2_with fail
        go_roundw
        case rel=>exact⟨m+1,by go_num,by omega,gA.out.trans HE2.out⟩
        case measure=>simp[intOf];omega
       ·obtain rfl:m=L.length:=by omega
        have gA:=ah Eb;clear Eb;go_wp2_with fail
        go_roundw
        case rel=>exact⟨j+1,by go_num,by omega,lV.out.trans gA.out⟩
        case measure=>simp[intOf];omega
     ·obtain rfl:j=N:=by omega
      have h1:=VY.out wx jg [] (by unfold maxLen;decide);have HEX:=ah jg;have HG:=ah h1;clear jg h1;go_wp2_with fail
      refine HG.out.mono ?_;rintro e w2 ⟨rfl,hE2⟩;have h2:=VY.out w2 (HEX.out.trans hE2) [110,111,32,115,117,99,104,32,107,101,121,44,32,102,111,114,32,105,116,32,105,115,32,116,111,111,32,108,111,110,103] (by unfold maxLen;decide);have HE2:=ah (HEX.out.trans hE2);have HG2:=ah h2;clear hE2 h2 HG HEX;go_wp2_with fail
      refine HG2.out.mono ?_;rintro e w4' ⟨rfl,mW⟩;have xI:=ah (HE.out.trans (HE2.out.trans mW));clear mW HG2;go_wp2_with fail
      go_ret;exact⟨rfl,xI.out⟩
end
section
open Go.RowKit Go.Lib Go.Maps Dk Pl
noncomputable def wX(n:Nat):Code:=Code.behind n (Tryz.f28.body.getD .skip)
theorem c3R{bss:List (List UInt8)}{n:Nat}(hbl:bss.length=n)(hn:n<=60)(hsm:∀i,(bss.getD i []).length<=1099511627776):17*(D5 bss).flatten.length<=67070209294336:=by
 have hsl:(D5 bss).length=n:=by unfold D5;rw[b_];exact hbl
 have hfew:∀i,17*((D5 bss).getD i []).length<=1099511627776:=by
  intro i;rcases aX i bss.length with hi|hi
  ·rw[U_ bss i hi];exact GP (hsm i)
  ·rw[bf,dK (by rw[hsl];omega)];simp
 have:=GQ hfew (D5 bss).length 0 (aj _) (bU _);rw[GW] at this;exact ay this (ay (h_ _ (show(D5 bss).length+1<=61 by omega)) (by decide))
theorem b2D:∀(l:List Fd)(m:List (Nm×Fd)),(l.foldl (λm f=>kU m f.2.2.key f) m).length<=m.length+l.length:=by
 intro l
 induction l with
 | nil=>intro m;simp
 | cons q l ih=>
  intro m;have h1:=ih (kU m q.2.2.key q);have h2:(kU m q.2.2.key q).length<=m.length+1:=by
   unfold kU;split<;>simp
  simp only[jG,bV];omega
theorem c1B{bss:List (List UInt8)}{n:Nat}(hbl:bss.length=n)(hn:n<=60)(hsm:∀i,(bss.getD i []).length<=1099511627776):(U7 bss n).length*16<=140737488355328/\(Y4 (D5 bss)).length*32<=140737488355328:=by
 have h1:=c3R hbl hn hsm;have h2:=b2D (tZ bss n) [];rw[<-QL] at h2;have h3:(tZ bss n).length=(D5 bss).flatten.length:=by rw[FR hbl,b_]
 have h4:=R9 (D5 bss).flatten;unfold Y4;simp only[fB,n_] at h2;omega
theorem c1C{bss:List (List UInt8)}{n:Nat}{p:Nm×Fd}(h:p∈U7 bss n):p.1.length<=16:=by
 obtain⟨-,h2,h3⟩:=Zt (am (cD bss n) h);rw[<-h3];exact Zu (QF h2)
def TQ(F:Nat->Prop)(a:Nat)(D:Dk.D)(w:World):Exit->Act->World->Prop
 | .ret,a',w'=>a'.defers=[]/\a'.tmps[2]?=some (.bool true)/\fA F F w w'/\A7 w' F a D
 | _,_,_=>False
section
variable{F:Nat->Prop}{a:Nat}{D:Dk.D}{w:World}{T:Array Value}
theorem IA{y:Value}{er:Er}(hT:T.size=54)(h0:T[0]?=some (o7 a))(h3:T[3]?=some (.pointer none))(h4:T[4]?=some y)(hD:A7 w F a D)(hc:D.Calm)(hfit:D.Fit)(hL:Laid w)(hE:ErrAt w y er)(hcode:er.code=(N8 D.files).2.1)(hne:er.code≠0)(hname:er.code=7->er.name=(N8 D.files).2.2):
 (wX 2).wp prog (TQ F a D w) ⟨T,[]⟩ w:=by
 obtain⟨x,e,hx⟩:=GL 54 T hT;refine(congrArg (λT'=>Code.wp _ _ _ ⟨T',[]⟩ _) (U2 (k:=4) (U2 (k:=3) (U2 (k:=0) e (hx 0 _ h0)) (hx 3 _ h3)) (hx 4 _ h4))).mpr ?_;have htl:=Qs er y w hE hL;obtain⟨cd,hcd⟩:∃cd,er.code=cd:=⟨_,rfl⟩;obtain⟨nm,hnm⟩:∃nm,er.name=nm:=⟨_,rfl⟩;rw[hcd,hnm] at htl;rw[hcd] at hcode hne hname;rw[hnm] at hname;have rZ:=ah htl;have HD:=ah hD;have HC:=ah hc;have HF:=ah hfit;have HN:=ah hname;have ir:=ah hcode;clear e hx hT h0 h3 h4 htl hD hc hfit hL hE hname hcd hnm hcode;unfold bC at rZ;unfold wX o7;simp only[Code.behind,Tryz.f28,aP,AN,List.range,List.range.loop,aB,dJ,up,reduceIte,Nat.reduceEqDiff];go_wp2_with fail
 refine rZ.out.mono ?_;rintro e w1 ⟨rfl,hE1⟩;have hfs:=Ut F a D w1 (HD.out.ext hE1) HC.out (by have:=HF.out.len;omega) (λx hx=>by have:=HF.out.data x hx;omega) (λp hp=>by have:=HF.out.names p hp;unfold maxLen;omega);have uw:=ah hfs;have vF:=ah (fA.ext (F:=F) hE1);clear hfs hE1 rZ;unfold o7 at uw;go_wp2_with fail
 refine uw.out.mono ?_;rintro e w2 ⟨fv,rows,rfl,hR,hD2,hC2⟩;have hro:=cU fv D.files w2 hR.files (ZU hD2.wf λx hx=>HF.out.data x hx);have EU:=ah hro;have HC2:=ah (vF.out.trans hC2);have HD2:=ah hD2;clear hro hR hD2 hC2 uw vF;go_wp2_with fail
 refine EU.out.mono ?_;rintro e w3 ⟨v,rfl,jX,-⟩;have oN:=ah (HC2.out.trans (fA.ext jX));have HD3:=ah (HD2.out.ext jX);have RQ:=ir.out;have Dn:=HN.out;obtain⟨f,hf⟩:∃f,(N8 D.files).2.1=f:=⟨_,rfl⟩;obtain⟨nn,hnn⟩:∃nn,(N8 D.files).2.2=nn:=⟨_,rfl⟩;rw[hf] at RQ⊢;rw[hnn] at Dn⊢;subst RQ;clear jX EU HC2 HD2 hf hnn HN ir HC HF HD;unfold bC;go_wp2_with fail
 refine(zw cd w3).mono ?_;rintro e w4 ⟨rfl,rfl⟩;by_cases h7:cd=7
 ·obtain rfl:=Dn h7;subst h7;go_wp2_with fail
  exact⟨rfl,rfl,oN.out,HD3.out⟩
 ·have h7':(cd==7)=false:=by simpa using h7
  have hne':(cd != 0)=true:=by simpa using hne
  go_wp2_with fail
  exact⟨rfl,rfl,oN.out,HD3.out⟩
theorem yl{sb gen:Nat}{ids:List Int}{bss:List (List UInt8)}(hT:T.size=54)(h0:T[0]?=some (o7 a))(h3:T[3]?=some (o7 sb))(h4:T[4]?=some .nilIface)(hD:A7 w F a D)(hc:D.Calm)(hfit:D.Fit)(hL:Held w F Laid)(hP:Held w F nZ)(hst:Held w F (λW=>Zr W sb a gen ids bss))(jU:Em ids)(hro:N8 D.files=(some (gen,ids,bss),0,[])):
 (wX 2).wp prog (TQ F a D w) ⟨T,[]⟩ w:=by
 obtain⟨x,e,hx⟩:=GL 54 T hT;refine(congrArg (λT'=>Code.wp _ _ _ ⟨T',[]⟩ _) (U2 (k:=4) (U2 (k:=3) (U2 (k:=0) e (hx 0 _ h0)) (hx 3 _ h3)) (hx 4 _ h4))).mpr ?_;have htl:=Qs .ok .nilIface w rfl hL.get;rw[show Er.ok.code=0 from rfl,show Er.ok.name=[] from rfl] at htl;have rZ:=ah htl;have HD:=ah hD;have HC:=ah hc;have HF:=ah hfit;have HL:=ah hL;have HP:=ah hP;have HST:=ah hst;have HI:=ah jU;have EU:=ah hro;clear e hx hT h0 h3 h4 htl hD hc hfit hL hP hst jU hro;unfold bC at rZ;unfold wX o7;simp only[Code.behind,Tryz.f28,aP,AN,List.range,List.range.loop,aB,dJ,up,reduceIte,Nat.reduceEqDiff];go_wp2_with fail
 refine rZ.out.mono ?_;rintro e w1 ⟨rfl,hE1⟩;have hfs:=Ut F a D w1 (HD.out.ext hE1) HC.out (by have:=HF.out.len;omega) (λx hx=>by have:=HF.out.data x hx;omega) (λp hp=>by have:=HF.out.names p hp;unfold maxLen;omega);have uw:=ah hfs;have vF:=ah (fA.ext (F:=F) hE1);clear hfs hE1 rZ;unfold o7 at uw;go_wp2_with fail
 refine uw.out.mono ?_;rintro e w2 ⟨fv,rows,rfl,hR,hD2,hC2⟩;have hr:=cU fv D.files w2 hR.files (ZU hD2.wf λx hx=>HF.out.data x hx);unfold Hq at hr;rw[EU.out] at hr;have HR:=ah hr;have HC2:=ah (vF.out.trans hC2);have HD2:=ah hD2;clear hr hR hD2 hC2 uw vF;unfold bC at HR;go_wp2_with fail
 refine HR.out.mono ?_;rintro e w3 ⟨v,rfl,jX,⟨h,-⟩|⟨g',MW,YZ,rb,h,-,hsm,rfl,-,hrn⟩⟩
 ·cases h
 injection h with h;injection h with q1 h;injection h with q2 q3;subst q1;subst q2;subst q3;have mD:=HC2.out.trans (fA.ext jX);have hop:qw w3 F a sb gen D ids bss:=⟨HD2.out.ext jX,HC.out,HF.out,HST.out.step mD,HI.out,HP.out.step mD,HL.out.step mD,by rw[EU.out],hsm⟩;have hrs:wK w3 rb gen ids bss:=hrn.get;have hn:=HI.out.1;obtain⟨hbl,-⟩:=QO hop.op;have hln:=c1B hbl hn hsm;have hrd:=b8L hop hrs hln.1 hln.2 (λp hp=>by
  have:=c1C hp;unfold maxLen;omega) hn
 have lY:=ah hrd;have oN:=ah mD;have HD3:=ah hop.disk;clear jX hrn hsm mD hop hrs hrd hbl hln hn HR HC2 HD2;unfold o7 at lY;unfold o7;go_wp2_with fail
 refine(zw 0 w3).mono ?_;rintro e w4 ⟨rfl,rfl⟩;go_wp2_with fail
 refine lY.out.mono ?_;rintro e w5 ⟨rfl,mg⟩;have i6:=ah (oN.out.trans (fA.ext mg));have HD5:=ah (HD3.out.ext mg);clear mg lY;go_wp2_with fail
 exact⟨rfl,rfl,i6.out,HD5.out⟩
end
end
section
open Go.RowKit Go.Lib Go.Maps Dk Pl
open Go.Conc Go.Mw
open Zn (tp Full jh VP Zf Le)
open To
set_option linter.unusedSectionVars false
noncomputable def lA:Array Oper:=Code.ops (Code.head (wX 0))
noncomputable def tl1:Array Oper:=Code.ops (Code.head (wX 1))
theorem un:wX 0=.seq (.region 0 lA false) (wX 1):=by kernel_rfl
theorem ul:wX 1=.seq (.region 1 tl1 false) (wX 2):=by kernel_rfl
theorem yr:Zn.ny zb (wX 2)=true:=by kernel_rfl
section
variable[Go.ConcR.Payload][To.Lo]{Sh F:Nat->Prop}{w:World}{a:Nat}{D:Dk.D}
structure YJ(F Sh:Nat->Prop)(a:Nat)(D:Dk.D)(w:World)(v:Value)(w':World)(Sh':Nat->Prop):Prop where
 v:v=.bool true
 W:jh zone Sh' w'
 old:∀b,b<w.heap.size->Sh' b->Sh b
 jr:iI F w w'
 disk:A7 w' F a D
theorem b5K(W:jh zone Sh w)(hgl:prog.globals.size<=w.heap.size)(hv:VP (Zf zone Sh w.heap.size) (o7 a))(hD:A7 w F a D)(hc:D.Calm)(hfit:D.Fit)(hL:Held w F Laid)(hl:Held w F nZ):
 Ej prog 28 #[o7 a] w Sh (YJ F Sh a D w):=by
 refine⟨Tryz.f28,wX 0,func28,by kernel_rfl,by kernel_rfl,?_⟩;rw[show Tryz.f28.ntmps=54 by kernel_rfl];have hI:Iv zone Sh Full ⟨#[o7 a]++Array.replicate (54 - 1) undef,[]⟩ w:=B7 W λv hx=>by
  obtain rfl:v=o7 a:=by simpa using hx
  exact hv
 have hT:(#[o7 a]++Array.replicate (54 - 1) undef).size=54:=by simp
 have h0:(#[o7 a]++Array.replicate (54 - 1) undef)[0]?=some (o7 a):=by rw[jq (by simp)];rfl
 show iZ _ _ _ _ ⟨#[o7 a]++Array.replicate (54 - 1) undef,[]⟩ _ _;generalize #[o7 a]++Array.replicate (54 - 1) undef=T at hT h0 hI⊢;have hkc:=Ni hc;rw[un];refine L9 (C_ ?_);rw[show List.range lA.size=[0] by kernel_rfl];refine CY (d:=2) (op:=.assign (.const (.bool false))) (g:=none) (v:=.bool false) (.of (by kernel_rfl)) lC hT (by decide) (EJ rfl) λT1 s1 g1 k1=>Ae ?_;have hI1:Iv zone Sh Full ⟨T1,[]⟩ w:=hI.keep λk _=>by
  by_cases e:k=2
  ·subst e;exact .inr ⟨_,g1,.bool _⟩
  ·exact .inl (k1 k e)
 have h01:=(k1 0 (by decide)).trans h0;show iZ _ _ _ _ _ _ _;rw[ul];refine L9 (RE 54 0 12 13 11 14 15 3 4 (by kernel_rfl) (by decide) hI1 s1 h01 hv hgl hD hfit.data hl ?_);intro x y w1 VA T2 hP s2 g3 g4 k2 hI2;have hD1:A7 w1 F a D:=by have:=hP.disk;rw[hkc.1] at this;exact this
 have hL1:Held w1 F Laid:=hL.jr hP.jr hD.low;have h02:=(k2 0 (by decide)).trans h01;have fin:∀e a' w' τ p τ' p',TQ F a D (tp w1 τ p) e a' (tp w' τ' p')->(e=.normal\/e=.ret)/\(Iv zone VA Full a' w'->w1.heap.size<=w'.heap.size->bodyT prog Tryz.f28 (YJ F Sh a D w) e a' w' VA):=by
  intro e a' w' τ p τ' p' q;cases e<;>first|exact q.elim|skip
  obtain⟨q1,q2,q3,q4⟩:=q;exact⟨.inr rfl,λyK _=>⟨q1,_,resultsC_tmp rfl a'.tmps,J3 q2,yK.W,hP.old,hP.jr.trans (.of q3),q4.ru⟩⟩
 show iZ _ _ _ _ _ _ _;rcases hP.res with⟨o1,o2,y',e,hE⟩|⟨sb,gen,ids,bss,o1,o2,jU,e,hst⟩
 ·have hx:x=.pointer none/\y=y':=by
   injection e with e;have h0:=congrArg (λA:Array Value=>A[0]?) e;have h1:=congrArg (λA:Array Value=>A[1]?) e;exact⟨by simpa using h0,by simpa using h1⟩
  obtain⟨rfl,rfl⟩:=hx;exact piece (λw=>TQ F a D w) hI2 (Zn.ny.sound yr) (Zn.fD _) (λτ p=>IA s2 h02 g3 g4 hD1.fZ hc hfit hL1.fZ.get hE.fZ.get hkc.2.2.1 (hkc.2.2.2.2.1 o1) λh=>hkc.2.2.2.1 h) fin
 ·have hx:x=.pointer (some ⟨sb,0,none⟩)/\y=.nilIface:=by
   injection e with e;have h0:=congrArg (λA:Array Value=>A[0]?) e;have h1:=congrArg (λA:Array Value=>A[1]?) e;exact⟨by simpa using h0,by simpa using h1⟩
  obtain⟨rfl,rfl⟩:=hx;have hro:N8 D.files=(some (gen,ids,bss),0,[]):=by
   have e1:=hkc.2.1;have e2:=hkc.2.2.1;rw[o1] at e1;rw[o2] at e2;have hn:=b2N D.files (by rw[<-e1];simp);exact Prod.ext e1.symm (Prod.ext e2.symm hn)
  exact piece (λw=>TQ F a D w) hI2 (Zn.ny.sound yr) (Zn.fD _) (λτ p=>yl s2 h02 g3 g4 hD1.fZ hc hfit hL1.fZ (hl.jr hP.jr hD.low).fZ hst.fZ jU hro) fin
end
end
section
open Go.RowKit Go.Lib Go.Maps Dk Pl
open Go.Conc Go.Mw
open Zn (tp Full jh VP Zf Le)
open To
set_option linter.unusedSectionVars false
theorem qw.fZ{w:World}{F:Nat->Prop}{a sb gen:Nat}{D:Dk.D}{ids:List Int}{bss:List (List UInt8)}{τ:Nat->Question->Nat}{p:Nat}(h:qw w F a sb gen D ids bss):qw (tp w τ p) F a sb gen D ids bss:=⟨h.disk.fZ,h.calm,h.fit,h.st.fZ,h.rE,h.P.fZ,h.La.fZ,h.op,h.small⟩
theorem qw.tV{w w':World}{F:Nat->Prop}{a sb gen:Nat}{D:Dk.D}{ids:List Int}{bss:List (List UInt8)}(h:qw w F a sb gen D ids bss)(c:iI (λ_=>False) w w'):qw w' F a sb gen D ids bss:=
 ⟨h.disk.tV c,h.calm,h.fit,h.st.jr c.any h.disk.low,h.rE,h.P.jr c.any h.disk.low,h.La.jr c.any h.disk.low,h.op,h.small⟩
noncomputable def Jq:Code:=Code.inn (Code.inn (Code.snd (g_ 11)))
noncomputable def rI:Code:=Code.fst (g_ 11)
noncomputable def SQ:Code:=Code.fst (Code.fst Jq)
noncomputable def rB:Code:=Code.snd (Code.snd Jq)
noncomputable def sG:Code:=Code.inn (Code.fst (Code.snd Jq))
noncomputable def Px:Code:=Code.fst sG
noncomputable def rz:Code:=Code.fst (Code.snd sG)
noncomputable def rm:Code:=Code.fst (Code.snd (Code.snd sG))
noncomputable def uB:Code:=Code.thn (Code.snd (Code.snd (Code.snd sG)))
theorem c3M:g_ 11=.seq (.region 18 (Code.ops rI) false) (.block 2 (.loop Jq)):=by kernel_rfl
theorem IM:Jq=.seq (.seq (.region 19 (Code.ops SQ) false) (.cond (.tmp 95) .skip (.exit 2))) (.seq (.block 3 (.seq Px (.seq (.region 22 (Code.ops rz) false) (.seq (.region 23 (Code.ops rm) false) (.cond (.tmp 108) uB .skip))))) (.region 20 (Code.ops rB) false)):=by kernel_rfl
theorem c1r:([g_ 6,g_ 7,g_ 8,g_ 10,Px].all λc=>Zn.ny zb c&&Zn.kC uG c)=true:=by kernel_rfl
theorem Ac{c:Code}(h:c∈[g_ 6,g_ 7,g_ 8,g_ 10,Px]):Zn.eX zone c/\Zn.gX (λk=>uG k=true) c:=by
 have:=aQ.1 c1r c h;simp only[aH] at this;exact⟨Zn.ny.sound this.1,Zn.kC.sound this.2⟩
section
variable{w:World}{T:Array Value}{rb gen:Nat}{ids:List Int}{bss:List (List UInt8)}
def rj(dL:List (List (Nat×Rec)))(T:Array Value)(w:World):Exit->Act->World->Prop
 | .normal,a',w'=>a'.defers=[]/\Kept [1,12,14,15,17] T a'.tmps/\∃u,a'.tmps[18]?=some u/\w'.ownsRow w.heap.size 60 2 u (Y4 dL).length ((Y4 dL).flatMap G5)/\Ext w w'
 | _,_,_=>False
theorem IH(hT:T.size=109)(BP:T[14]?=some (o7 rb))(h:wK w rb gen ids bss)(hn:ids.length<=60)(hl:∀i,(bss.getD i []).length<=1099511627776):Px.wp prog (rj (D5 bss) T w) ⟨T,[]⟩ w:=by
 obtain⟨x,e,hx⟩:=GL 109 T hT;refine(congrArg (λT'=>Code.wp _ _ _ ⟨T',[]⟩ _) (U2 (k:=14) e (hx 14 _ BP))).mpr ?_;have HC:=ah (Nn rb gen ids bss w h hn hl);have HX:=ah hx;have H14:=ah (hx 14 _ BP);clear h hl BP e hx;unfold o7 at HC;unfold Px sG Jq g_ opC o7;simp only[Code.behind,Code.head,Code.fst,Code.snd,Code.inn,Tryz.f5,aP,AN,List.range,List.range.loop,aB,dJ,up,reduceIte,Nat.reduceEqDiff];go_wp2_with fail
 refine HC.out.mono ?_;rintro e w1 ⟨u,rfl,hR,hE⟩;have HR:=ah hR;have HE:=ah hE;clear hR hE HC;go_wp2;exact⟨rfl,Qm _ hT HX.out rfl rfl (by rw[aB,aB,aB,aB,aB,aB,aB,aB,aB,aB,H14.out];rfl),u,rfl,HR.out,HE.out⟩
end
section
variable[To.Lo]{Sh:Nat->Prop}{w:World}{T:Array Value}{Q:Exit->Act->World->(Nat->Prop)->Prop}{F:Nat->Prop}{a sb gen rb:Nat}{D:Dk.D}{ids:List Int}{bss:List (List UInt8)}
omit[To.Lo] in
theorem b8D:Zn.ny zb (Tryz.f30.body.getD .skip)=true:=by kernel_rfl
def sM(Sh:Nat->Prop)(w:World)(v:Value)(w':World)(Sh':Nat->Prop):Prop:=Sh'=Sh/\jh zone Sh w'/\v=.bool true/\iI (λ_=>False) w w'
theorem b8E{B uc:Nat}{ua:Option Addr}{M:List (Nm×Nm)}{key:Nm}(W:jh zone Sh w)(hv:VP (Zf zone Sh w.heap.size) (o7 sb))(hu:VP (Zf zone Sh w.heap.size) (.slice ua M.length uc))(h:qw w F a sb gen D ids bss)(hM:Y4 (D5 bss)=M)
 (hrow:w.ownsRow B 60 2 (.slice ua M.length uc) M.length (M.flatMap G5))(hk:key.length<=maxLen):Ej prog 30 #[o7 sb,.slice ua M.length uc,bC key] w Sh (sM Sh w):=by
 refine b0t (Z:=zone) (c:=Tryz.f30.body.getD .skip) (Q0:=λw v w'=>v=.bool true/\Ext w w') Sm func30 (by kernel_rfl) (by kernel_rfl) (Zn.ny.sound b8D) W (λv hv'=>?_) (λτ p=>?_) (λZ' tmps ht=>⟨_,resultsC_tmp rfl tmps,ht _⟩) ?_
 ·have:v=o7 sb\/v=.slice ua M.length uc\/v=bC key:=by simpa using hv'
  rcases this with rfl|rfl|rfl
  ·exact hv
  ·exact hu
  ·exact .string _
 ·intro c hc;refine Code.wp_mono (λe a' w' q=>?_) (G2 (h.fZ (τ:=τ) (p:=p)) hM hrow hk c hc);cases e<;>first|exact q|skip
  ·obtain⟨q1,v,q2,q3,q4⟩:=q;injection q3 with q3;exact⟨q1,v,q2,v,rfl,q3,q4⟩
  ·obtain⟨q1,v,q2,q3,q4⟩:=q;injection q3 with q3;exact⟨q1,v,q2,v,rfl,q3,q4⟩
  ·exact absurd q.2.1 (by simp)
  ·exact absurd q.1 (by simp)
 ·rintro v w' τ p τ' p' ⟨q1,q2⟩ hW' _ _;exact⟨rfl,hW',q1,.ext q2⟩
omit[To.Lo] in
theorem add_block'(ad:Addr)(n:Nat):(ad.add n).block=ad.block:=by unfold Addr.add;split<;>rfl
structure Ei(Sh:Nat->Prop)(w:World)(T T':Array Value)(w':World):Prop where
 size:T'.size=109
 keep:∀k∈[1,12,14,15],T'[k]?=T[k]?
 iv:Iv zone Sh (λk=>uG k=true) ⟨T',[]⟩ w'
 jr:iI (λ_=>False) w w'
omit[To.Lo] in
theorem Ei.next{T1 T2:Array Value}{w1 w2:World}(h:Ei Sh w T T1 w1)(hs:T2.size=109)(hk:∀k∈[1,12,14,15],T2[k]?=T1[k]?)(hI:Iv zone Sh (λk=>uG k=true) ⟨T2,[]⟩ w2)(hc:iI (λ_=>False) w1 w2):Ei Sh w T T2 w2:=
 ⟨hs,λk hm=>(hk k hm).trans (h.keep k hm),hI,h.jr.trans hc⟩
theorem c1s{ka:Option Addr}{n kc:Nat}{x y:Value}{f:Int}(hT:T.size=109)(hI:Iv zone Sh (λk=>uG k=true) ⟨T,[]⟩ w)(h1:T[1]?=some (.slice ka n kc))(h12:T[12]?=some x)(BP:T[14]?=some y)(h15:T[15]?=some (.int .i64 f))
 (hcs:f=0->x=o7 sb/\y=o7 rb/\qw w F a sb gen D ids bss/\Held w F (λW=>wK W rb gen ids bss)/\ids.length<=60)(hn:n<=300)
 (hk:∀k,k<n->∃ad key,ka=some ad/\w.cell? (ad.add k)=some (bC key)/\key.length<=maxLen/\ad.block<Lo.n)
 (h:∀T' w',Ei Sh w T T' w'->Q .normal ⟨T',[]⟩ w' Sh):iZ prog 5 (g_ 11) Q ⟨T,[]⟩ w Sh:=by
 rw[c3M];refine L9 (C_ ?_);rw[show List.range (Code.ops rI).size=[0] by kernel_rfl];refine nY (d:=17) (op:=.assign (.const (.int .i64 0))) (g:=none) (v:=.int .i64 (0:Nat)) (.of (by kernel_rfl)) lC hT (by decide) (EJ rfl) hI (λ_=>.int _ _) λT1 s1 g1 k1 hI1=>Ae ?_;have hJ1:Ei Sh w T T1 w:=⟨s1,λk hm=>k1 k (by rintro rfl;revert hm;decide),hI1,.refl _ w⟩;show iZ _ _ _ _ _ _ _;refine GA (c2h (N:=n) (λm aa ww SS=>SS=Sh/\∃(k:Nat)(T':Array Value),aa=⟨T',[]⟩/\m+k=n/\T'[17]?=some (.int .i64 k)/\Ei Sh w T T' ww) ⟨rfl,0,T1,rfl,rfl,g1,hJ1⟩ ?_);rintro m aa ww SS ⟨rfl,k,T2,rfl,hmk,g17,hJ2⟩;have f1:=(hJ2.keep 1 (by decide)).trans h1;have f15:=(hJ2.keep 15 (by decide)).trans h15;rw[IM];refine L9 (L9 (C_ ?_));rw[show List.range (Code.ops SQ).size=[0,1,2,3,4,5,6,7] by kernel_rfl];refine nY (d:=88) (op:=.move (.tmp 17)) (g:=none) (.of (by kernel_rfl)) lC hJ2.size (by decide) (W9 (G7 g17)) hJ2.iv (λh=>absurd h (by decide)) λT3 s3 g3 k3 yK=>?_;refine nY (d:=89) (op:=.move (.tmp 1)) (g:=none) (.of (by kernel_rfl)) lC s3 (by decide) (W9 (G7 ((k3 1 (by decide)).trans f1))) yK (λh=>absurd h (by decide)) λT4 s4 g4 k4 Gq=>?_;refine nY (d:=90) (op:=.call {callee:=.builtin .len,args:=#[.tmp 89],argTypes:=#[73]}) (g:=none) (.of (by kernel_rfl)) lC s4 (by decide) (b7w (G7 g4)) Gq (λh=>absurd h (by decide)) λT5 s5 g5 k5 BO=>?_;refine nY (d:=91) (op:=.binOp .lss 3 (.tmp 88) (.tmp 90) 3) (g:=none) (.of (by kernel_rfl)) lC s5 (by decide) (c0g (G7 ((k5 88 (by decide)).trans ((k4 88 (by decide)).trans g3))) (G7 g5)) BO (λh=>absurd h (by decide)) λT6 s6 g6 k6 D_=>?_;refine nY (d:=92) (op:=.move (.tmp 91)) (g:=none) (.of (by kernel_rfl)) lC s6 (by decide) (W9 (G7 g6)) D_ (λh=>absurd h (by decide)) λT7 s7 g7 k7 SG=>?_;have k27:∀j,j<88->T7[j]?=T2[j]?:=λj hj=>(k7 j (by omega)).trans ((k6 j (by omega)).trans ((k5 j (by omega)).trans ((k4 j (by omega)).trans (k3 j (by omega)))));have hop:uO (Code.ops SQ) 4 92 (.move (.tmp 91)) none:=.of (by kernel_rfl);have Yx:T7[15]?=some (.int .i64 f):=(k27 15 (by decide)).trans f15;have rest:∀Q':Exit->Act->World->(Nat->Prop)->Prop,(∀T8:Array Value,T8.size=109->T8[95]?=some (.bool (decide (k<n)&&decide (f=0)))->(∀j,j<88->T8[j]?=T2[j]?)->Iv zone SS (λk=>uG k=true) ⟨T8,[]⟩ ww->Q' .normal ⟨T8,[]⟩ ww SS)->mX prog 5 (Code.ops SQ) [5,6,7] Q' ⟨T7,[]⟩ ww SS:=by
  intro Q' hQ;by_cases hkn:k<n
  ·have hd:decide ((k:Int)<(n:Int))=true:=aG (by omega);rw[hd] at g7;refine nY (d:=93) (op:=.move (.tmp 15)) (g:=some (4,true)) (.of (by kernel_rfl)) (RZ hop g7) s7 (by decide) (W9 (G7 Yx)) SG (λh=>absurd h (by decide)) λT8 s8 g8 k8 DZ=>?_;refine nY (d:=94) (op:=.binOp .eql 3 (.tmp 93) (.const (.int .i64 0)) 3) (g:=some (4,true)) (.of (by kernel_rfl)) (RZ hop ((k8 92 (by decide)).trans g7)) s8 (by decide) (c0h (G7 g8) rfl) DZ (λh=>absurd h (by decide)) λT9 s9 g9 k9 yJ=>?_;refine nY (d:=95) (op:=.pick (.tmp 92) (.tmp 94) (.const (.bool false))) (g:=none) (.of (by kernel_rfl)) lC s9 (by decide) (b5X (G7 ((k9 92 (by decide)).trans ((k8 92 (by decide)).trans g7))) _ (G7 g9)) yJ (λh=>absurd h (by decide)) λT10 s10 g10 k10 yL=>?_;refine Ae (hQ T10 s10 (by rw[g10,aG hkn,Bool.true_and]) (λj hj=>(k10 j (by omega)).trans ((k9 j (by omega)).trans ((k8 j (by omega)).trans (k27 j hj)))) yL)
  ·have hd:decide ((k:Int)<(n:Int))=false:=aI (by omega);rw[hd] at g7;refine C4 (d:=93) (op:=.move (.tmp 15)) (g:=some (4,true)) (.of (by kernel_rfl)) (RZ hop g7) s7 (by decide) SG λT8 s8 g8 k8 DZ=>?_;refine C4 (d:=94) (op:=.binOp .eql 3 (.tmp 93) (.const (.int .i64 0)) 3) (g:=some (4,true)) (.of (by kernel_rfl)) (RZ hop ((k8 92 (by decide)).trans g7)) s8 (by decide) DZ λT9 s9 g9 k9 yJ=>?_;refine nY (d:=95) (op:=.pick (.tmp 92) (.tmp 94) (.const (.bool false))) (g:=none) (v:=.bool false) (.of (by kernel_rfl)) lC s9 (by decide) (b5Y (G7 ((k9 92 (by decide)).trans ((k8 92 (by decide)).trans g7))) _ rfl) yJ (λh=>absurd h (by decide)) λT10 s10 g10 k10 yL=>?_;refine Ae (hQ T10 s10 (by rw[g10,aI hkn,Bool.false_and]) (λj hj=>(k10 j (by omega)).trans ((k9 j (by omega)).trans ((k8 j (by omega)).trans (k27 j hj)))) yL)
 refine rest _ λT8 s8 g8 k28 DZ=>?_;show iZ _ _ _ _ _ _ _;refine B8 (G7 g8) ?_;have Oz:Ei SS w T T8 ww:=hJ2.next s8 (λj hm=>k28 j (by simp at hm;omega)) DZ (.refl _ ww);have e17:T8[17]?=some (.int .i64 k):=(k28 17 (by decide)).trans g17;by_cases hc:k<n/\f=0;rotate_left
 ·have e:(decide (k<n)&&decide (f=0))=false:=by
   rcases aX k n with h|h
   ·have:f≠0:=λe=>hc ⟨h,e⟩;simp[this]
   ·simp[show ¬k<n by omega]
  rw[e];refine c2g ?_;show Qd 2 _ (.exit 2) _ _ _;simp only[Qd,if_true];exact h T8 ww Oz
 obtain⟨hkn,hf0⟩:=hc;rw[aG hkn,aG hf0];obtain⟨rfl,rfl,hop,hrs,hil⟩:=hcs hf0;obtain⟨ad,key,rfl,hcell,hkl,hlo⟩:=hk k hkn;refine B9 ?_;show iZ _ _ _ _ _ _ _;have e14:=(Oz.keep 14 (by decide)).trans BP;have Xz:=hop.tV Oz.jr;refine L9 (GA (L9 (piece (λw=>rj (D5 bss) T8 w) DZ (Ac (by simp)).1 (Ac (by simp)).2 (λτ p=>IH s8 e14 (hrs.jr Oz.jr.any hop.disk.low).fZ.get hil hop.small) ?_)));rintro e ⟨T9,d9⟩ w9 τ p τ' p' q;cases e<;>first|exact q.elim|skip
 obtain⟨q1,q2,u,q3,q4,q5⟩:=q;dsimp only at q1 q2 q3;subst q1;have c9:iI (λ_=>False) ww w9:=.ext q5;refine⟨.inl rfl,λyJ _=>?_⟩;have Oy:Ei SS w T T9 w9:=Oz.next (q2.1.trans s8) (λj hm=>q2.2 j (by simp at hm⊢;omega)) yJ c9;replace q4:w9.ownsRow ww.heap.size 60 2 u (Y4 (D5 bss)).length ((Y4 (D5 bss)).flatMap G5):=q4;obtain⟨ua,uc,rfl⟩:=ownsRow_form q4;have Xy:=Xz.tV c9;have s9:=Oy.size;have e1:=(Oy.keep 1 (by decide)).trans h1;have e12:=(Oy.keep 12 (by decide)).trans h12;have e17:T9[17]?=some (.int .i64 k):=(q2.at e17);have kz:VP (Zf zone SS w9.heap.size) (o7 sb):=by
  have:=yJ.tmps 12 rfl;dsimp only at this;rwa [J3 e12] at this
 have vu:VP (Zf zone SS w9.heap.size) (.slice ua (Y4 (D5 bss)).length uc):=by
  have:=yJ.tmps 18 rfl;dsimp only at this;rwa [J3 q3] at this
 show iZ _ _ _ _ _ _ _;refine L9 (C_ ?_);rw[show List.range (Code.ops rz).size=[0,1,2,3,4,5,6,7] by kernel_rfl];refine nY (d:=100) (op:=.move (.tmp 12)) (g:=none) (.of (by kernel_rfl)) lC s9 (by decide) (W9 (G7 e12)) yJ (λh=>absurd h (by decide)) λT10 s10 g10 k10 yL=>?_;refine nY (d:=101) (op:=.move (.tmp 18)) (g:=none) (.of (by kernel_rfl)) lC s10 (by decide) (W9 (G7 ((k10 18 (by decide)).trans q3))) yL (λh=>absurd h (by decide)) λT11 s11 g11 k11 Yp=>?_;refine nY (d:=102) (op:=.move (.tmp 1)) (g:=none) (.of (by kernel_rfl)) lC s11 (by decide) (W9 (G7 ((k11 1 (by decide)).trans ((k10 1 (by decide)).trans e1)))) Yp (λh=>absurd h (by decide)) λT12 s12 g12 k12 Yo=>?_;refine nY (d:=103) (op:=.move (.tmp 17)) (g:=none) (.of (by kernel_rfl)) lC s12 (by decide) (W9 (G7 ((k12 17 (by decide)).trans ((k11 17 (by decide)).trans ((k10 17 (by decide)).trans e17))))) Yo (λh=>absurd h (by decide)) λT13 s13 g13 k13 Yn=>?_;refine nY (d:=104) (op:=.indexAddr 73 (.tmp 102) (.tmp 103)) (g:=none) (.of (by kernel_rfl)) lC s13 (by decide) (b95 hkn (G7 ((k13 102 (by decide)).trans g12)) (G7 g13)) Yn (λh=>absurd h (by decide)) λT14 s14 g14 k14 Ym=>?_;have qs:w9.cell? (ad.add k)=some (bC key):=(World.cell?_of_block (Oy.jr.block _ (World.block_lt_of_cell? w _ hcell) λh=>h)).trans hcell;refine b8Y (d:=105) (t:=9) (x:=.tmp 104) (.of (by kernel_rfl)) s14 (by decide) (G7 g14) (by rw[add_block'];exact hlo) qs (λo ho w hw=>b96 (G7 g14) o ho w hw) λT15 s15 g15 k15=>?_;have OA:=Zk (X:=uG) Ym g15 k15 λh=>absurd h (by decide);refine cT (d:=106) (f:=30) (args:=#[.tmp 100,.tmp 101,.tmp 105]) (ats:=#[32,46,9]) (Post:=sM SS w9) (.of (by kernel_rfl)) s15 (by decide) ?_ λv w' Sh' bz hp s16 g16 k16=>?_
 ·have e:(#[Operand.tmp 100,.tmp 101,.tmp 105]).map (Act.eval ⟨T15,[]⟩)=#[o7 sb,.slice ua (Y4 (D5 bss)).length uc,bC key]:=by
   have e1:Act.eval ⟨T15,[]⟩ (.tmp 100)=o7 sb:=G7 ((k15 100 (by decide)).trans ((k14 100 (by decide)).trans ((k13 100 (by decide)).trans ((k12 100 (by decide)).trans ((k11 100 (by decide)).trans g10)))));have e2:Act.eval ⟨T15,[]⟩ (.tmp 101)=.slice ua (Y4 (D5 bss)).length uc:=G7 ((k15 101 (by decide)).trans ((k14 101 (by decide)).trans ((k13 101 (by decide)).trans ((k12 101 (by decide)).trans g11))));have e3:Act.eval ⟨T15,[]⟩ (.tmp 105)=bC key:=G7 g15;simp only[eH,aB,dJ,e1,e2,e3]
  rw[e];exact b8E OA.W kz vu Xy rfl q4 hkl
 obtain⟨rfl,hW',rfl,c16⟩:=hp;have hle:Le (Zf zone Sh' w9.heap.size) (Zf zone Sh' w'.heap.size):=⟨rfl,rfl,rfl,λb h=>⟨ak h.1 c16.size,h.2⟩⟩;have Yl:Iv zone Sh' (λk=>uG k=true) ⟨bz,[]⟩ w':=⟨λt ht=>by
  show VP _ (bz.getD t undef);rw[aA,k16 t (by rintro rfl;cases ht),<-aA];exact(OA.tmps t ht).mono hle,λd hd=>(by cases hd),hW'⟩
 refine nY (d:=8) (op:=.assign (.tmp 106)) (g:=none) (.of (by kernel_rfl)) lC s16 (by decide) (EJ (G7 g16)) Yl (λ_=>.bool _) λT17 md YA k17 Yk=>Ae ?_;have Xc:∀j,j<100->j≠8->T17[j]?=T9[j]?:=λj hj h8=>(k17 j h8).trans ((k16 j (by omega)).trans ((k15 j (by omega)).trans ((k14 j (by omega)).trans ((k13 j (by omega)).trans ((k12 j (by omega)).trans ((k11 j (by omega)).trans (k10 j (by omega))))))));show iZ _ _ _ _ _ _ _;refine L9 (C_ ?_);rw[show List.range (Code.ops rm).size=[0,1] by kernel_rfl];refine nY (d:=107) (op:=.move (.tmp 8)) (g:=none) (.of (by kernel_rfl)) lC md (by decide) (W9 (G7 YA)) Yk (λ_=>.bool _) λT18 l_ g18 k18 Yj=>?_;refine nY (d:=108) (op:=.unOp .not 4 (.tmp 107)) (g:=none) (v:=.bool false) (.of (by kernel_rfl)) lC l_ (by decide) (b94 (G7 g18)) Yj (λ_=>.bool _) λT19 lL g19 k19 Yi=>Ae ?_;show iZ _ _ _ _ _ _ _;refine B8 (G7 g19) (B9 ?_);show iZ _ _ _ _ _ _ _;refine C_ ?_;rw[show List.range (Code.ops rB).size=[0,1,2] by kernel_rfl];have LG:∀j,j<100->j≠8->T19[j]?=T9[j]?:=λj hj h8=>(k19 j (by omega)).trans ((k18 j (by omega)).trans (Xc j hj h8));refine nY (d:=96) (op:=.move (.tmp 17)) (g:=none) (.of (by kernel_rfl)) lC lL (by decide) (W9 (G7 ((LG 17 (by decide) (by decide)).trans e17))) Yi (λ_=>.int _ _) λT20 s20 g20 k20 Yh=>?_;refine nY (d:=97) (op:=.binOp .add 3 (.tmp 96) (.const (.int .i64 1)) 3) (g:=none) (.of (by kernel_rfl)) lC s20 (by decide) (c0i (by omega) (G7 g20) rfl) Yh (λ_=>.int _ _) λT21 lz g21 k21 Yg=>?_;refine nY (d:=17) (op:=.assign (.tmp 97)) (g:=none) (.of (by kernel_rfl)) lC lz (by decide) (EJ (G7 g21)) Yg (λ_=>.int _ _) λT22 lw g22 k22 Yf=>Ae ?_;exact⟨m - 1,by omega,rfl,k+1,T22,rfl,by omega,g22,Oy.next lw (λj hm=>by
  simp at hm;exact(k22 j (by omega)).trans ((k21 j (by omega)).trans ((k20 j (by omega)).trans (LG j (by omega) (by omega))))) Yf c16⟩
end
end
section
open Go.RowKit Go.Lib Go.Maps Dk Pl
open Go.Conc Go.Mw
open Zn (tp Full jh VP Zf Le)
open To
set_option linter.unusedSectionVars false
theorem uA:opC 5=.seq (.region 6 (Code.ops (g_ 5)) false) (opC 6):=by kernel_rfl
theorem uv:opC 6=.seq (g_ 6) (opC 7):=by kernel_rfl
theorem uu:opC 7=.seq (g_ 7) (opC 8):=by kernel_rfl
theorem ut:opC 8=.seq (g_ 8) (opC 9):=by kernel_rfl
theorem us:opC 9=.seq (.region 16 (Code.ops (g_ 9)) false) (opC 10):=by kernel_rfl
theorem yy:opC 10=.seq (g_ 10) (opC 11):=by kernel_rfl
theorem yv:opC 11=.seq (g_ 11) (opC 12):=by kernel_rfl
noncomputable def q_:Code:=Code.fst (opC 12)
theorem yo:opC 12=.seq (.region 25 (Code.ops q_) false) .ret:=by kernel_rfl
section
variable[Go.ConcR.Payload][To.Lo]{Sh:Nat->Prop}{w:World}{T:Array Value}{F:Nat->Prop}{a:Nat}{D:Dk.D}
theorem c3N{ka:Option Addr}{n kc:Nat}{fv:Value}(hI:Iv zone Sh (λk=>uG k=true) ⟨T,[]⟩ w)(hT:T.size=109)(h1:T[1]?=some (.slice ka n kc))(h6:T[6]?=some (o7 a))(h7:T[7]?=some fv)
 (hgl:prog.globals.size<=w.heap.size)(hD:A7 w F a D)(hc:D.Calm)(hfit:D.Fit)(hL:Held w F Laid)(hl:Held w F nZ)(hn:n<=300)(hfv:Held w F (λW=>Y2 W fv D.files))
 (hk:∀k,k<n->∃ad key,ka=some ad/\w.cell? (ad.add k)=some (bC key)/\key.length<=maxLen/\ad.block<Lo.n/\¬F ad.block):
 iZ prog 5 (opC 5) (bodyT prog Tryz.f5 λv w' _=>v=.bool true/\iI F w w') ⟨T,[]⟩ w Sh:=by
 have hv:VP (Zf zone Sh w.heap.size) (o7 a):=by
  have:=hI.tmps 6 rfl;dsimp only at this;rwa [J3 h6] at this
 have hkc:=Ni hc;rw[uA];refine L9 (C_ ?_);rw[show List.range (Code.ops (g_ 5)).size=[0,1,2] by kernel_rfl];refine nY (d:=32) (op:=.move (.tmp 6)) (g:=none) (.of (by kernel_rfl)) lC hT (by decide) (W9 (G7 h6)) hI (λ_=>hv) λT1 s1 g1 k1 hI1=>?_;refine cT (d:=33) (f:=28) (args:=#[.tmp 32]) (ats:=#[30]) (Post:=YJ F Sh a D w) (.of (by kernel_rfl)) s1 (by decide) ?_ λv w1 VA T2 hp s2 g2 k2=>?_
 ·have e:(#[Operand.tmp 32]).map (Act.eval ⟨T1,[]⟩)=#[o7 a]:=by
   simp only[eH,aB,dJ];rw[G7 g1]
  rw[e];exact b5K hI.W hgl hv hD hc hfit hL hl
 obtain rfl:=hp.v;have hI2:=VV (X:=uG) hI1 hp.W hp.jr.size hp.old g2 k2 λ_=>.bool _;refine nY (d:=8) (op:=.assign (.tmp 33)) (g:=none) (.of (by kernel_rfl)) lC s2 (by decide) (EJ (G7 g2)) hI2 (λ_=>.bool _) λT3 s3 g3 k3 yK=>Ae ?_;have Xd:∀k,k∈[1,6,7]->T3[k]?=T[k]?:=λk hk=>by
  simp at hk;exact(k3 k (by omega)).trans ((k2 k (by omega)).trans (k1 k (by omega)))
 have hL1:=hL.jr hp.jr hD.low;have hl1:=hl.jr hp.jr hD.low;have hf1:=hfv.jr hp.jr hD.low;have f6:=(Xd 6 (by decide)).trans h6;have f7:=(Xd 7 (by decide)).trans h7;have f1:=(Xd 1 (by decide)).trans h1;have hD1:=hp.disk;have c1:=hp.jr;clear hp;show iZ _ _ _ _ _ _ _;rw[uv];refine L9 (piece (λw=>dm F a D T3 w) yK (Ac (by simp)).1 (Ac (by simp)).2 (λτ p=>zg s3 f6 hD1.fZ hc hfit) ?_);rintro e ⟨T4,d4⟩ w2 τ p τ' p' q;cases e<;>first|exact q.elim|skip
 obtain⟨q1,q2,fv2,rows,q3,q4,q5,q6⟩:=q;dsimp only at q1 q2 q3;subst q1;have c2:iI F w1 w2:=.of q6;have hD2:A7 w2 F a D:=q5.ru;have hf2:Y2 w2 fv2 D.files:=q4.files;have hg2:Held w2 F (λW=>Y2 W fv2 D.files):=by
  have:=q4.held (F:=F) λb hb=>hD1.low b hb;exact this.fZ (τ:=w2.tape) (p:=w2.drawn)
 refine⟨.inl rfl,λGq _=>?_⟩;clear q4 q5 q6;have s4:=q2.1.trans s3;have NW:=hf1.jr c2 hD1.low;obtain⟨a1,b1,rfl,-⟩:=NW.get.form;obtain⟨a2,b2,rfl,-⟩:=hf2.form;show iZ _ _ _ _ _ _ _;rw[uu];refine L9 (piece (λw=>di T4 w) Gq (Ac (by simp)).1 (Ac (by simp)).2 (λτ p=>y_ s4 (q2.at f7) (q2.at g3) q3) ?_);rintro e ⟨T5,d5⟩ w3 τ p τ' p' q;cases e<;>first|exact q.elim|skip
 obtain⟨r1,r2,r3⟩:=q;dsimp only at r1 r2;subst r1;have c3:iI (λ_=>False) w2 w3:=.eq r3;refine⟨.inl rfl,λBO _=>?_⟩;have s5:=r2.1.trans s4;have hD3:=hD2.tV c3;show iZ _ _ _ _ _ _ _;rw[ut];refine L9 (piece (λw=>df T5 w) BO (Ac (by simp)).1 (Ac (by simp)).2 (λτ p=>yz s5 (r2.at (q2.at f7)) (r2.at q3) (NW.jr c3.any hD2.low).fZ.get (hg2.jr c3.any hD2.low).fZ.get) ?_);rintro e ⟨T6,d6⟩ w4 τ p τ' p' q;cases e<;>first|exact q.elim|skip
 obtain⟨u1,u2,u3⟩:=q;dsimp only at u1 u2;subst u1;have c4:iI (λ_=>False) w3 w4:=.ext u3;refine⟨.inl rfl,λD_ _=>?_⟩;have s6:=u2.1.trans s5;have hD4:=hD3.tV c4;have c24:iI F w2 w4:=c3.any.trans c4.any;have c14:iI F w1 w4:=c2.trans c24;have f64:T6[6]?=some (o7 a):=u2.at (r2.at (q2.at f6));have hv4:VP (Zf zone VA w4.heap.size) (o7 a):=by
  have:=D_.tmps 6 rfl;dsimp only at this;rwa [J3 f64] at this
 show iZ _ _ _ _ _ _ _;rw[us];refine L9 (RE 109 6 78 79 77 80 81 12 13 (by kernel_rfl) (by decide) D_ s6 f64 hv4 (ay hgl (ay c1.size c14.size)) hD4 hfit.data (hl1.jr c14 hD1.low) ?_);intro x y w5 Sh5 T7 hP s7 g12 g13 k7 SG;have hD5:A7 w5 F a D:=by have:=hP.disk;rw[hkc.1] at this;exact this
 have c5:iI F w4 w5:=hP.jr;have t9:T7[9]?=some (.slice a2 D.files.length b2):=(k7 9 (by decide)).trans (u2.at (r2.at q3));have t1:T7[1]?=some (.slice ka n kc):=(k7 1 (by decide)).trans (u2.at (r2.at (q2.at f1)));have hg5:=(hg2.jr c24 hD2.low).jr c5 hD4.low;show iZ _ _ _ _ _ _ _;rw[yy];refine L9 (piece (λw=>rK D.files T7 w) SG (Ac (by simp)).1 (Ac (by simp)).2 (λτ p=>A2 s7 t9 hg5.fZ.get (ZU hD5.wf λx hx=>hfit.data x hx)) ?_);rintro e ⟨T8,d8⟩ w6 τ p τ' p' q;cases e<;>first|exact q.elim|skip
 obtain⟨v1,v2,v,v3,v4,v',ev,v5,v6⟩:=q;dsimp only at v1 v2 v3 v4;subst v1;obtain rfl:v'=v:=by
  injection ev with ev;injection ev with ev;have:=congrArg (λA:Array Value=>A[0]?) ev;simpa using this.symm
 have c6:iI (λ_=>False) w5 w6:=.ext v5;refine⟨.inl rfl,λDZ _=>?_⟩;clear v5 ev;have s8:=v2.1.trans s7;have uW:iI F w w6:=c1.trans (c14.trans (c5.trans c6.any));show iZ _ _ _ _ _ _ _;rw[yv];refine L9 ?_;obtain⟨sb,gen,ids,bss,rb,hcs⟩:∃sb gen ids bss rb,(N8 D.files).2.1=0->x=o7 sb/\v'=o7 rb/\qw w6 F a sb gen D ids bss/\Held w6 F (λW=>wK W rb gen ids bss)/\ids.length<=60:=by
  rcases hP.res with⟨o1,o2,y',e,hE⟩|⟨sb,gen,ids,bss,o1,o2,jU,e,hst⟩
  ·exact⟨0,0,[],[],0,λh=>absurd (hkc.2.2.1.trans h) (hkc.2.2.2.2.1 o1)⟩
  ·have hx:x=.pointer (some ⟨sb,0,none⟩):=by
    injection e with e;have h0:=congrArg (λA:Array Value=>A[0]?) e;simpa using h0
   subst hx;have hro:(N8 D.files).1=some (gen,ids,bss):=by rw[<-hkc.2.1];exact o1
   rcases v6 with⟨h,_⟩|⟨g,i,b,rb,h,_,h3,h4,_,h5⟩
   ·rw[hro] at h;cases h
   ·rw[hro] at h;injection h with h;injection h with q1 h;injection h with q2 q3;subst q1;subst q2;subst q3;exact⟨sb,gen,ids,bss,rb,λ_=>⟨rfl,h4,⟨hD5.tV c6,hc,hfit,hst.jr c6.any hD5.low,jU,((hl1.jr c14 hD1.low).jr c5 hD4.low).jr c6.any hD5.low,((hL1.jr c14 hD1.low).jr c5 hD4.low).jr c6.any hD5.low,hro,h3⟩,(h5.held λb hb=>hD5.low b hb),jU.1⟩⟩
 refine c1s s8 DZ (v2.at t1) (v2.at g12) v3 v4 hcs hn (λk hkn=>?_) λT9 w7 hJ=>?_
 ·obtain⟨ad,key,e1,e2,e3,e4,e5⟩:=hk k hkn;exact⟨ad,key,e1,(World.cell?_of_block (uW.block _ (World.block_lt_of_cell? w _ e2) (by rw[add_block'];exact e5))).trans e2,e3,e4⟩
 ·show iZ _ _ _ _ _ _ _;rw[yo];refine L9 (C_ ?_);rw[show List.range (Code.ops q_).size=[0] by kernel_rfl];refine CY (d:=4) (op:=.assign (.const (.bool true))) (g:=none) (v:=.bool true) (.of (by kernel_rfl)) lC hJ.size (by decide) (EJ rfl) λT10 s10 g10 k10=>Ae ?_;show iZ _ _ _ _ _ _ _;exact YY ⟨rfl,_,resultsC_tmp rfl T10,J3 g10,uW.trans hJ.jr.any⟩
end
end
end Go.Proofs.YtgpbhjjajpbeeaaGreatDoor
