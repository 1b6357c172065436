/- A part of what the last file proves. -/
import Derived.Test.YtgpbhjjajpbeeaaGreatDoorA25
set_option linter.all false
set_option maxRecDepth 100000
set_option maxHeartbeats 6400000
open Go.Proofs.Tryz
namespace Go.Proofs.YtgpbhjjajpbeeaaGreatDoor
open Go.RowKit Go.Lib Go.Maps Dk Pl Go.Conc Go.Mw To
variable{i j k m p r:Nat}{b l:dV}
abbrev tI(w:aB)(r:Nat)(a:List (Int×Value)):Prop:=MapOf prog 3 (Value.int .i64) (λv:Value=>v) w r a
structure Rw(w:World)(B sb mb fb old tr n f2:Nat)(L:List Nm)(u:Value)(gU:List Nat)(ms:List (Int×Value))(bs:List (List UInt8)):Prop where
 box:o6 w mb 255 #[l9 sb,.slice (some ⟨fb,0,none⟩) n n,.map (some old),u,.map (some tr)]
 row:o6 w fb 257 (Eo n n).toArray
 om:sV w old
 tk:vG w tr (wZ L)
 own:jd w B u (W9 gU)
 fm:tI w f2 ms
 keys:ms.map (·.1)=W9 gU
 len:bs.length=gU.length
 vals:∀(i:Nat)p b,ms[i]?=some p->bs[i]?=some b->OwnB w B p.2 b
 lo:B<=mb/\B<=fb/\B<=old/\B<=tr/\B<=f2/\old≠f2/\tr≠f2
section
variable{w w':World}{B sb mb fb old tr n f2:Nat}{L:List Nm}{u:Value}{gU:List Nat}{ms:List (Int×Value)}{bs:List (List UInt8)}
def sV.kind(h:sV w r):xZ w r=some none:=h.choose_spec.1.kind
theorem Rw.keep(h:Rw w B sb mb fb old tr n f2 L u gU ms bs)(a:∀b,B<=b->b<w.heap.size->w'.heap[b]?=w.heap[b]?):Rw w' B sb mb fb old tr n f2 L u gU ms bs:=by
 obtain⟨j,f,m,k,l,-⟩:=h.lo;exact⟨(a mb j h.box.lt).trans h.box,(a fb f h.row.lt).trans h.row,h.om.block<|a _ m h.om.lt,h.tk.block<|a tr k h.tk.lt,jH.row h.own w' λb c=>a b (World.ownsRow.lt h.own b c).1 (World.ownsRow.lt h.own b c).2,h.fm.block<|a f2 l h.fm.lt,h.keys,h.len,
  λi p b d c=>jH.row (h.vals i p b d c) _ λg e=>a g (World.ownsRow.lt (h.vals i p b d c) g e).1 (World.ownsRow.lt (h.vals i p b d c) g e).2,h.lo⟩
def Rw.ext(h:Rw w B sb mb fb old tr n f2 L u gU ms bs)(a:Ext w w'):Rw w' B sb mb fb old tr n f2 L u gU ms bs:=h.keep λb _ c=>a.block b c
theorem Rw.held(h:Rw w B sb mb fb old tr n f2 L u gU ms bs){F:tyP}(e:∀b,F b->b<B):Held w F (λW=>Rw W B sb mb fb old tr n f2 L u gU ms bs):=
 ⟨λb=>B<=b/\b<w.heap.size,λb c=>⟨c.2,λa=>by have:=e b a;omega⟩,λw' f=>h.keep λb d g=>f b ⟨d,g⟩⟩
def ch(b:k<=1000000):keyOf prog 3 (.int .i64 (k:Int))=some (.int .i64 (k:Int)):=keyOf_int_mk underlying3 (ZU<|aj)
def int_inj(a b:Int)(h:Value.int .i64 a=Value.int .i64 b):a=b:=fU
theorem Rw.put(h:Rw w B sb mb fb old tr n f2 L u gU ms bs)(f:k<=1000000)(d:k∉gU)(v:aX):∃w',(Instr.mapUpdate 258 (.map (some f2)) (.int .i64 (k:Int)) v).run prog w=.ok () w'/\tI w' f2 (ms++[((k:Int),v)])/\Off f2 w w':=by
 let⟨w',o,m,i⟩:=h.fm.store LX int_inj underlying258 (ch f) v;refine⟨w',o,?_,i⟩;have e:X4 ms k v=ms++[((k:Int),v)]:=by unfold X4;rw[if_neg (λc=>by rw[h.keys] at c;let⟨j,g,e⟩:=aQ.1 c;exact d<|show j=k by omega▸g)]
 exact e▸m
theorem Rw.add{J f:aB}(h:Rw w B sb mb fb old tr n f2 L u gU ms bs){v l:aX}{o:Obj}(s:OwnB w B v b)(M:Off f2 w J)(O:tI J f2 (ms++[((k:Int),v)]))(E:(J.alloc o).grownBy f u.ownBlock)(R:jd f B l (W9 (gU++[k]))):
 Rw (f.setCell ⟨mb,3,none⟩ l) B sb mb fb old tr n f2 L l (gU++[k]) (ms++[((k:Int),v)]) (bs++[b]):=by
 have G:=h.box.kind;have Q:∀b,u.ownBlock=some b->xZ w b=some (some 3):=λb I=>MF h.own I;have H:=h.fm.kind;have A:mb≠f2:=λe=>iL
 have C:∀b,b<w.heap.size->b≠f2->xZ w b≠some (some 3)->f.heap[b]?=w.heap[b]?:=λb I K P=>(E.block b (by simp;have:=M.size;omega) λe=>P<|Q b e.symm).trans ((heap_alloc_old _ _<|by have:=M.size;omega).trans<|M.block b K)
 have F:∀b,b<w.heap.size->b≠f2->xZ w b≠some (some 3)->xZ w b≠some (some 255)->(f.setCell ⟨mb,3,none⟩ l).heap[b]?=w.heap[b]?:=λb I K P V=>(Below.heap_setCell _ _ _ _ λe=>V<|iL).trans (C b I K P)
 let⟨Y,a,Z,X,W,T,U⟩:=h.lo;have d:∀{x y:Option _}{b},xZ w b=x->x≠y->xZ w b≠y:=λe h=>e▸h;have S:∀{b t},xZ w b=some (some t)->b≠f2:=λe h=>iL
 have z:o6 f mb 255 _:=(C mb h.box.lt A (d G<|dA)).trans h.box;have D:ms.length=gU.length:=by have:=congrArg List.length h.keys;simp_all
 have r:∀{v:aX}{b:dV},OwnB w B v b->OwnB _ B v b:=λs=>jH.row s _ λg E=>have:=MF s E;F g (World.ownsRow.lt s g E).2 (S this) (d this<|dA) (d this<|dA)
 refine⟨z.set 3 l,(F fb h.row.lt (S h.row.kind) (d h.row.kind<|dA) (d h.row.kind<|dA)).trans h.row,h.om.block (F old h.om.lt T (d h.om.kind<|dA) (d h.om.kind<|dA)),h.tk.block (F tr h.tk.lt U (d h.tk.kind<|dA) (d h.tk.kind<|dA)),
  ownsRow_setCell_other (a:=⟨mb,3,none⟩) R (ownsRow_ne R z<|dA) _,?_,?_,?_,λi p c j m=>?_,h.lo⟩
 refine O.block ((Below.heap_setCell _ _ _ _<|dI A).trans ((E.block f2 (by simp;have:=O.lt;omega) λe=>?_).trans<|heap_alloc_old _ _ O.lt));rw[Q f2 e.symm] at H;cases H
 rw[aY,h.keys];simp[W9]
 rw[aC,aC,h.len];rfl
 obtain N|N:=bH i _
 rw[bP N] at j;rw[bP (by rw[h.len,<-D];exact N)] at m;exact r<|h.vals i p c j m
 have q:i=ms.length:=by have:=(aJ.1 j).1;rw[aC,jZ] at this;omega
 rw[q,cZ<|ak _,Nat.sub_self] at j;rw[q,D,<-h.len] at m;injection j with j;subst j;simp_all
theorem Rw.look(h:Rw w B sb mb fb old tr n f2 L u gU ms bs)(l:gU[j]?=some k)(b:k<=1000000){z:aX}(i:(zeroValue 25).run prog w=.ok z w):
 ∃v,(Instr.lookup 258 (.map (some f2)) (.int .i64 (k:Int)) true).run prog w=.ok (.tuple #[v,.bool true]) w/\ms[j]?=some ((k:Int),v):=by
 have a:(ms.map (·.1))[j]?=some k:=by rw[h.keys,dF,l];rfl
 rw[dF] at a
 cases d:ms[j]? with
 | none=>rw[d] at a;cases a
 | some p=>rw[d] at a;injection a with a;have f:=h.fm.Bj LX int_inj underlying258 i<|ch b;have g:=Dy h.fm.nodup d;rw[show p.1=k from a] at g;rw[g] at f;exact⟨p.2,f,by rw[<-a]⟩
end
def GN(bss:fJ)(n k:Nat):List (List UInt8):=((List.range k).map (wV bss n)).filter λb=>!b.isEmpty
def A5(bss:fJ)(n:Nat):GN bss n n=lX bss n:=rfl
theorem b6A(bss:fJ)(n k:Nat):GN bss n (k+1)=GN bss n k++if wV bss n k=[] then[] else[wV bss n k]:=by
 unfold GN;rw[nM,aY,xg];congr 1
 simp only[bD,kL];simp
def C_(bss:fJ)(n i k:Nat):List UInt8:=((((D7 (bss.getD i [])).take k).filter (Ah bss n i)).map (·.2)).flatMap encR
theorem b6s{bss:fJ}{n:Nat}{p:Nat×Rec}(hp:(D7 (bss.getD i []))[k]?=some p):C_ bss n i (k+1)=C_ bss n i k++if Ah bss n i p=true then encR p.2 else[]:=by
 unfold C_;rw[cO,hp,xg,aY,dZ];congr 1
 simp only[Option.toList_some,kL,List.filter_nil];split<;>simp
theorem c5W{r:Rec}(h:dec l=some r):(encR r).length<=96/\1<=r.key.length/\r.key.length<=16/\r.val.length<=64:=by
 rw[(ZA h).2];unfold dec at h;split at h
 ·rename_i hg;injection h with h;subst h;unfold good at hg;simp only[aI,bZ,j_,Bool.and_eq_false_iff,YS] at hg;simp only[dH,fG];omega
 ·cases h
theorem c5X(r:Rec):summed (body r.seq (⟨r.key.toArray⟩:ByteArray).data.toList (⟨r.val.toArray⟩:ByteArray).data.toList r.del)=encR r:=by simp[encR]
section
attribute [local go_sem] undef
theorem c2x(mb sb r old n i:Nat)(id:Int)(u:aX)(c0 c1 c2 c3 c5 m1 m3 m4:aX)(bss:fJ)(w:aB)(hm:o6 w mb 255 #[.pointer (some sb),m1,.map (some old),m3,m4])
 (hb:o6 w sb 138 #[c0,c1,c2,c3,.map (some r),c5])(hn:n=bss.length)(hi':i<n)(hO:sV w old)(hM:vH w r (O9 bss n))
 (hrow:oP w 160 7 u (D7 (bss.getD i [])).length ((D7 (bss.getD i [])).flatMap (O6 i)))(hl:(bss.getD i []).length<=1099511627776)(hil:i<=1000000):
 Calls prog 138 #[l9 mb,.agg #[.int .i64 id,u]] w λe w'=>∃v,e=.returned (.tuple #[v,.nilIface])/\OwnB w' w v (wV bss n i)/\Ext w w':=by
 obtain⟨i0,hi,hz0,hz1,hz2⟩:=info_parts Dq;obtain⟨ua,uc,rfl⟩:=hrow.slice;have m0:=(hm.cell 0).trans (show _=some (Value.pointer (some sb)) from rfl);have m2:=(hm.cell 2).trans (show _=some (Value.map (some old)) from rfl);have hlen:=Xp (bss.getD i []);have TD:=Xx (bss.getD i []);have hfin:C_ bss n i (D7 (bss.getD i [])).length=wV bss n i:=by unfold C_ wV CZ;rw[bK]
 have hat:∀(k:Nat)p,(D7 (bss.getD i []))[k]?=some p->∃g,A7 (O9 bss n) p.2.key=some g/\Ah bss n i p=(!p.2.del&&Af g (i,p)):=λk p hp=>by obtain⟨g,h1,-⟩:=c3C (n:=n) hn hi' hp;exact⟨g,h1,by unfold Ah;rw[h1]⟩
 have hdec:∀p∈D7 (bss.getD i []),∃l,dec l=some p.2:=λp hp=>⟨_,Y3 hp⟩;have hoff:∀p∈D7 (bss.getD i []),p.1<=1099511627776:=λp hp=>by have h1:=Y3 hp;have h2:=Ak h1;rw[fG] at h2;omega
 have vX:∀(k:Nat)p,(D7 (bss.getD i []))[k]?=some p->C_ bss n i (k+1)=C_ bss n i k++if Ah bss n i p=true then encR p.2 else[]:=λk p hp=>b6s hp
 have hk0:C_ bss n i 0=[]:=rfl;obtain⟨L,hL⟩:∃L,D7 (bss.getD i [])=L:=⟨_,rfl⟩;rw[hL] at hrow hfin hat hdec hoff vX hlen TD;rw[hL];obtain⟨w0,hw0⟩:∃w0,w.alloc (.cells #[.int .i64 id,.slice ua L.length uc] 154)=w0:=⟨_,rfl⟩;have hb0:o6 w0 w 154 #[.int .i64 id,.slice ua L.length uc]:=hw0▸jR _ _ rfl;have hE0:Ext w w0:=hw0▸(dh w).new _;have s1:=(hb0.cell 1).trans (show _=some (Value.slice ua L.length uc) from rfl);have hb1:o6 w0 sb 138 #[c0,c1,c2,c3,.map (some r),c5]:=(hE0.block sb hb.lt).trans hb;have HB:=ah hb1;have HM:=ah (hM.ext hE0);have HO:=ah (hO.ext hE0);have HR:=ah (hrow.keep λg hg=>hE0.block g (hrow.lt hg));have HAT:=ah hat;have NJ:=ah hdec;have Nr:=ah hoff;have DI:=ah vX;have qN:=ah hfin;have AQ:=ah hE0;have HW0:=ah hw0;have HK0:=ah hk0;have m0:=hE0.cell m0;have m2:=hE0.cell m2;clear hb1 hm hb hM hO hrow hat hdec hoff vX hfin hE0 hw0 hb0 hL TD hn hi' hk0;unfold l9;go_enter func138,ntmps138
 go_wp2_with fail
 rw[HW0.out];unfold undef;go_loopw [6,14] (λbs j wr=>∃k:Nat,j=.int .i64 k/\k<=L.length/\OwnB wr w0 bs (C_ bss n i k)/\(C_ bss n i k).length<=96*k/\Ext w0 wr) (λ_ j _=>L.length - (intOf j).toNat)
 case atStart=>exact⟨0,rfl,aj,HK0.out▸Jp _ _,by rw[HK0.out];simp,dh _⟩
 case round=>
  obtain⟨k,rfl,hk,hown,hkl,hE⟩:=hrel;obtain⟨ba,bc,rfl⟩:=ownsRow_form hown;by_cases hlt:k<L.length
  ·have hki:(k:Int)<(L.length:Int):=aj
   obtain⟨g,cap,hu,hcap,hgl,hcells⟩:=oP.rec (HR.out.keep λg hg=>hE.block g (HR.out.lt hg)) hlt;injection hu with h1 h2 h3;subst h1;subst h3;have hp:L[k]?=some L[k]:=au hlt;obtain⟨P,hP⟩:∃P,L[k]=P:=⟨_,rfl⟩;rw[hP] at hcells hp;have hpm:=aH hp;obtain⟨G,hG,IC⟩:=HAT.out k P hp;obtain⟨dl,hdl⟩:=NJ.out P hpm;obtain⟨z1,z2,z3,z4⟩:=c5W hdl;have hof:=Nr.out P hpm;have hsu:=DI.out k P hp;have f0:=hcells 0 _ rfl;have f1:=hcells 1 _ rfl;have f2:=hcells 2 _ rfl;have f3:=hcells 3 _ rfl;have f4:=hcells 4 _ rfl;have f5:=hcells 5 _ rfl;have f6:=hcells 6 _ rfl;rw[iP] at f0;obtain⟨wi,hwi⟩:∃wi,wr.alloc (.cells #[.int .i64 i,.int .i64 P.1,.int .i64 P.2.size,.int .u64 P.2.seq,.string ⟨P.2.key.toArray⟩,.string ⟨P.2.val.toArray⟩,.bool P.2.del] 160)=wi:=⟨_,rfl⟩;have hx:o6 wi wr 160 #[.int .i64 i,.int .i64 P.1,.int .i64 P.2.size,.int .u64 P.2.seq,.string ⟨P.2.key.toArray⟩,.string ⟨P.2.val.toArray⟩,.bool P.2.del]:=hwi▸jR _ _ rfl;have hEi:Ext wr wi:=hwi▸(dh wr).new _;have HWI:=ah hwi;have HX:=ah hx;have fR:=ah hEi;have HE:=ah hE;have HOWN:=ah hown;have HG:=ah hG;have HKF:=ah IC;have HSU:=ah hsu;clear hwi hx hEi hE hown hG IC hsu hcells hdl hP hp hpm;go_upto_region 5 with fail
   rw[HWI.out];go_cut [39] (λv wx=>v=.bool (!(!P.2.del&&Af G (i,P)))/\Ext wi wx)
   case first=>
    have ng:Ext wi wi.drew:=Below.drew (dh wi);have hEa:Ext w0 wi.drew:=(HE.out.trans fR.out).trans ng;have hc:=b61 sb r c0 c1 c2 c3 c5 (O9 bss n) (i,P) G wi.drew ((hEa.block sb HB.out.lt).trans HB.out) (HM.out.ext hEa) (by show P.2.key.length<=_;unfold maxLen;omega) HG.out;have kO:=hEa.cell m0;have kB:=hEa.cell m2;have hlk:∀wq,Ext wi.drew wq->(Instr.lookup 253 (.map (some old)) (.agg #[.int .i64 i,.int .i64 P.1]) false).run prog wq=.ok (.int .i64 0) wq:=λwq hq=>((HO.out.ext hEa).ext hq).look aj hof;have x0:wi.drew.cell? wr=_:=(HX.out.cell 0).trans (show _=some (Value.int .i64 i) from rfl);have x1:wi.drew.cell? ⟨wr,1,none⟩=_:=(HX.out.cell 1).trans (show _=some (Value.int .i64 P.1) from rfl);have x2:wi.drew.cell? ⟨wr,2,none⟩=_:=(HX.out.cell 2).trans (show _=some (Value.int .i64 P.2.size) from rfl);have x3:wi.drew.cell? ⟨wr,3,none⟩=_:=(HX.out.cell 3).trans (show _=some (Value.int .u64 P.2.seq) from rfl);have x4:wi.drew.cell? ⟨wr,4,none⟩=_:=(HX.out.cell 4).trans (show _=some (Value.string ⟨P.2.key.toArray⟩) from rfl);have x5:wi.drew.cell? ⟨wr,5,none⟩=_:=(HX.out.cell 5).trans (show _=some (Value.string ⟨P.2.val.toArray⟩) from rfl);have x6:wi.drew.cell? ⟨wr,6,none⟩=_:=(HX.out.cell 6).trans (show _=some (Value.bool P.2.del) from rfl);have HC:=ah hc;have uf:=ah hlk;have uS:=ah ng;clear hc hlk ng hEa;unfold l9 YR O6 at HC;dsimp only at HC;obtain⟨sp,hsp⟩:∃sp,Af G (i,P)=sp:=⟨_,rfl⟩;obtain⟨dd,hdd⟩:∃dd,P.2.del=dd:=⟨_,rfl⟩;rw[hsp,hdd] at HC;rw[hdd] at x6;cases sp
    ·first|(go_region_with (go_at_call 129;refine HC.out.mono ?_;rintro e wq ⟨rfl,hE⟩;have hl:=uf.out wq hE;have S8:=hE.cell kO;have S7:=hE.cell kB;have Rm:=hE.cell x0;have Rb:=hE.cell x1;have Q6:=hE.cell x6))|fail
     all_goals
      go_wp2_with fail
      go_meet
      exact⟨by rw[hsp,hdd];simp,uS.out.trans hE⟩
    ·cases dd
     ·first|(go_region_with (go_at_call 129;refine HC.out.mono ?_;rintro e wq ⟨rfl,hE⟩;have hl:=uf.out wq hE;have S8:=hE.cell kO;have S7:=hE.cell kB;have Rm:=hE.cell x0;have Rb:=hE.cell x1;have Q6:=hE.cell x6))|fail
      all_goals
       go_wp2_with fail
       go_meet
       exact⟨by rw[hsp,hdd];rfl,uS.out.trans hE⟩
     ·first|(go_region_with (go_at_call 129;refine HC.out.mono ?_;rintro e wq ⟨rfl,hE⟩;have hl:=uf.out wq hE;have S8:=hE.cell kO;have S7:=hE.cell kB;have Rm:=hE.cell x0;have Rb:=hE.cell x1;have Q6:=hE.cell x6))|fail
      all_goals
       go_wp2_with fail
       go_meet
       exact⟨by rw[hsp,hdd];rfl,uS.out.trans hE⟩
   case rest=>
    obtain⟨rfl,oz⟩:=hcut;have hEr:=fR.out.trans oz;have x3:=oz.cell ((HX.out.cell 3).trans (show _=some (Value.int .u64 P.2.seq) from rfl));have x4:=oz.cell ((HX.out.cell 4).trans (show _=some (Value.string ⟨P.2.key.toArray⟩) from rfl));have x5:=oz.cell ((HX.out.cell 5).trans (show _=some (Value.string ⟨P.2.val.toArray⟩) from rfl));have x6:=oz.cell ((HX.out.cell 6).trans (show _=some (Value.bool P.2.del) from rfl));obtain⟨kf,IC⟩:∃kf,(!P.2.del&&Af G (i,P))=kf:=⟨_,rfl⟩;have hk1:=HSU.out;rw[HKF.out,IC] at hk1;rw[IC];obtain⟨m,hm⟩:∃m,C_ bss n i k=m:=⟨_,rfl⟩;have hown:=HOWN.out;rw[hm] at hk1 hkl hown⊢;have HOW:=ah hown;clear hown HOWN HSU HKF;cases kf
    ·rw[if_neg aZ,dX] at hk1;have Ye:=ah hk1;have QW:=ah hEr;clear hk1 hEr oz x3 x4 x5 x6 hm;go_wp2_with fail
     go_roundw
     case rel=>exact⟨k+1,iE,aj,by rw[Ye.out];exact ownsRow_below HOW.out QW.out,by rw[Ye.out];omega,HE.out.trans QW.out⟩
     case measure=>simp[intOf];omega
    ·rw[if_pos rfl] at hk1;have hdel:P.2.del=false:=by rw[aI,j_] at IC;exact IC.1
     have henc:=b94 P.2.seq ⟨P.2.key.toArray⟩ ⟨P.2.val.toArray⟩ P.2.del wc (by simpa [ByteArray.size] using z2) (by simpa [ByteArray.size] using z3) (by simpa [ByteArray.size] using z4) (.inl hdel);rw[c5X] at henc;obtain⟨m2,hm2⟩:∃m2,encR P.2=m2:=⟨_,rfl⟩;rw[hm2] at henc hk1 z1;have Ye:=ah hk1;have QW:=ah hEr;have NH:=ah henc;clear hk1 hEr oz hm hm2 henc IC hdel;unfold PI at NH;go_wp2_with fail
     refine NH.out.mono ?_;rintro e w4 ⟨v,rfl,hO4,lH⟩;obtain⟨xa,xc,rfl⟩:=ownsRow_form hO4;have Gq:=QW.out.trans lH;have JZ:w0.heap.size<=w4.heap.size:=(HE.out.trans Gq).size;have hO:=ownsRow_below HOW.out Gq;have hB4:=hO4.bytes;have HO4:=ah hO;have HB4:=ah hB4;have rZ:=ah (HE.out.trans Gq);clear hO hB4 lH hO4 Gq NH HOW x3 x4 x5 x6;go_wp2_with (at_builtin;go_must (refine A8 rfl _ _ 25 rfl w0 5 i0 (.int .u8 0) 1 1 underlying25 hi hz0 hz1 hz2 rfl aj (.slice ba m.length bc) m.length (m.map eG) rfl HO4.out (.slice xa m2.length xc) m2.length (m2.map eG) rfl HB4.out aZ (Dv m2) lJ aj JZ ?_);intro b5 c5 w5 hown5 kD vZ;clear vZ)
     have xM:OwnB w5 w0 (.slice b5 (m.length+m2.length) c5) (m++m2):=by unfold OwnB;rw[aY,aC];exact hown5
     have kE:Ext w0 w5:=Below.grown rZ.out kD rZ.out.size (λr hr=>by have:=HO4.out.lt r hr;omega);have JF:=ah xM;have rM:=ah kE;clear xM kE hown5 kD;go_roundw
     case rel=>exact⟨k+1,iE,aj,by rw[Ye.out];exact JF.out,by rw[Ye.out,aC];omega,rM.out⟩
     case measure=>simp[intOf];omega
  ·obtain rfl:k=L.length:=aj
   have HF:=ah hown;have HE:=ah (AQ.out.trans hE);clear hown hE hkl;go_wp2;go_ret2
   exact⟨_,rfl,by rw[<-qN.out];exact H6 HF.out AQ.out.size,HE.out⟩
end
theorem c6b(v:aX)(l:fC)(w:aB)(h:Ints w v l)(t:l≠[])(M:l.length<=60):Calls prog 137 #[v] w λe w'=>∃m,e=.returned (.int .i64 m)/\m∈l/\(∀x∈l,x<=m)/\w'=w:=by
 obtain⟨K,I,rfl,N,G,-⟩:=h.open;have a:0<l.length:=uN.2 t;have C:¬((l.length:Int)<1):=aj
 obtain⟨u,rfl,B⟩:=Ints.at h (dh w) a;have F:=by simpa [Addr.add] using B
 go_enter func137,ntmps137
 go_wp2_with fail
 go_loop [3,4] (λm i=>∃(k:Nat)(y:Int),i=.int .i64 k/\m=.int .i64 y/\1<=k/\k<=l.length/\y∈l.take k/\∀x∈l.take k,x<=y) (λ_ i=>l.length - (intOf i).toNat)
 case atStart=>exact⟨1,l[0],rfl,rfl,ak _,a,by rw[cO,au a];simp,λx c=>by rw[cO,au a] at c;simp at c;omega⟩
 case round=>
  obtain⟨k,y,rfl,rfl,J,L,j,g⟩:=hrel;by_cases f:k<l.length
  have A:=aj
  obtain⟨b,e,E⟩:=Ints.at h (dh w) f;injection e with e;subst e;have n:=take_snoc l k f;obtain⟨z,r⟩:∃z,l[k]=z:=⟨_,rfl⟩;rw[r] at E n;clear r;go_wp2_with fail
  refine⟨⟨k+1,max y z,iE,rfl,aj,aj,?_,λx c=>?_⟩,by simp[intOf];omega⟩
  rw[n];obtain h|h:=Int.le_total y z
  rw[Int.max_eq_right h];simp
  rw[Int.max_eq_left h];simp_all
  rw[n] at c;obtain c|c:=aP.1 c
  have:=g x c;omega
  obtain rfl:=dB.1 c;omega
  obtain rfl:k=l.length:=aj
  rw[bK] at j g;go_wp2_with fail
  go_ret;simp_all
def c6a(w:aB):(zeroValue 25).run prog w=.ok (.slice none 0 0) w:=rfl
def ci(g:aB)(F:tyP)(D:Dk.D)(a sb l fb old m:Nat)(c:fC)(bss:fJ)(e:Ending)(w':aB):Prop:=
 e=.returned .nilIface/\∃(j:Nat)(u:aX)(f:List Nat)(k:List (Int×Value))(d:tyP)(h:Dk.D),Held w' d (λW=>Rw W g sb l fb old m c.length j D.list u f k (lX bss c.length))/\Qa D c bss f/\D.Wr (f.zip (lX bss c.length)) h/\o7 w' d a h/\iq F d g w'/\∀b,F b->d b
theorem b4W(wB:aB)(F:tyP)(D:Dk.D)(a sb mb fb old tr gen c:Nat)(ids:fC)(bss:fJ)(w:aB)(hE:Ext wB w)(hF:∀b,F b->b<wB.heap.size)(hM:Mr w sb mb fb old tr ids.length ids.length D.list)(hlo:wB<=mb/\wB<=fb/\wB<=old/\wB<=tr)
 (hst:Held wB F (λW=>Df W sb a gen ids bss))(hD:o7 wB F a D)(hR:Ready D c gen ids bss)(hc:c<=1000)(hP:Held wB F S9)(h0:ids≠[])(pO:ids.length<=60)(pR:∀x∈ids,1<=x)(hl:∀i,(bss.getD i []).length<=1048576):
 Calls prog 82 #[l9 mb] w (ci wB F D a sb mb fb old tr ids bss):=by
 obtain⟨ia,ic,Cb,r,vv,hb,hii,hsg,hla,hbl⟩:=hst.get;obtain⟨ii,mN,hi0,hi1,hi2⟩:=info_parts WY;have UD:=hbl;have b2:=hE.cell ((hb.cell 2).trans (show _=some (Value.slice ia ids.length ic) from rfl));have b3:=hE.cell ((hb.cell 3).trans (show _=some (Value.slice (some ⟨Cb,0,none⟩) ids.length ids.length) from rfl));have m0:=(hM.box.cell 0).trans (show _=some (l9 sb) from rfl);have hmx:=c6b _ ids w (hii.ext hE) h0 pO;have hmm:=@run_makeMap prog;have m0n:=((dh w).new (.map #[] 0)).cell m0;have b3n:=((dh w).new (.map #[] 0)).cell b3;have hroom:∀(m:Nat)(gU:List Nat)(cur r:Nat),(m:Int)∈ids->Gv D.list (m+1) gU cur->gU.length<=60->Nx D.list cur r->r<=1000000->r<=999999:=λm gU cur r h1 h2 h3 h4 h5=>by
  have q1:=hR.top _ h1;have q2:=h2.bound;have q3:=h4.bound h5;have q4:D.list.length=D.now.length:=by unfold Dk.D.list;simp
  have q5:=hR.len;omega
 obtain⟨n,hn⟩:∃n,ids.length=n:=⟨_,rfl⟩;obtain⟨w1,hw1⟩:∃w1,w.alloc (.map #[] 0)=w1:=⟨_,rfl⟩;obtain⟨f2,hf2⟩:∃f2,w.heap.size=f2:=⟨_,rfl⟩;have hE1:Ext w w1:=hw1▸(dh w).new _;have hrw:Rw w1 wB sb mb fb old tr n f2 D.list (.slice none 0 0) [] [] []:=by have hM1:=hM.ext hE1;rw[hn] at hM1;have q1:=hM.old.lt;have q2:=hM.tk.lt;have q3:=hE.size;exact⟨hM1.box,hM1.row,hM1.old,hM1.tk,⟨rfl,.inl ⟨rfl,rfl⟩⟩,hf2▸hw1▸MapOf.made w,rfl,rfl,λi p b h=>(by simp at h),hlo.1,hlo.2.1,hlo.2.2.1,hlo.2.2.2,aj,aj,aj⟩
 have HRW:=ah hrw;have HMX:=ah hmx;have HE:=ah (hE.trans hE1);have HST:=ah hst;have HP:=ah hP;have HD:=ah hD;have HR:=ah hR;have yx:=ah hroom;have HL:=ah hl;have HN:=ah hn;have HW1:=ah hw1;have HF2:=ah hf2;have qA:=ah hsg;have HF:=ah hF;have M1:=ah pR;have lQ:=ah hE1;have HLA:=ah hla;have Nk:=ah hb;have EI:=ah hbl;clear hrw hmx hE hst hP hD hR hroom hl hw1 hf2 hsg hF pR hE1 hla hM hlo hb hii hbl UD;rw[hn] at b2 b3 b3n pO;clear hn;unfold l9 at *;go_enter func82,ntmps82
 rw[<-HN.out] at b2;go_wp2_with fail
 refine HMX.out.mono ?_;rintro e w2 ⟨m,rfl,hm,hmx,rfl⟩;have hm1:=M1.out m hm;have hmc:=HR.out.top m hm;obtain⟨M,rfl⟩:∃M:Nat,m=(M:Int):=⟨m.toNat,aj⟩;have HM:=ah hm;have XZ:=ah hmx;clear hm hmx HMX;go_wp2_with fail
 rw[HF2.out,HW1.out];go_loopw [3,33] (λcu i wr=>∃(k cur:Nat)(u:aX)(gU:List Nat)(ms:List (Int×Value)),i=.int .i64 k/\cu=.int .i64 cur/\k<=n/\(1<=cur/\cur<=1000000)/\gU.length<=k/\Rw wr wB sb mb fb old tr n f2 D.list u gU ms (GN bss n k)/\Gv D.list (M+1) gU cur/\Ext wB wr) (λ_ i _=>n - (intOf i).toNat)
 case atStart=>exact⟨0,M+1,_,[],[],rfl,iE,aj,aj,aZ,HRW.out,.nil _,HE.out⟩
 case round=>
  obtain⟨k,cur,u,gU,ms,rfl,rfl,hk,nQ,hnl,uZ,hG,hEr⟩:=hrel;by_cases hlt:k<n
  ·have hki:(k:Int)<(n:Int):=aj
   obtain⟨s1,yu,s2,hrow⟩:=qA.out k (by rw[HN.out];exact hlt);obtain⟨ya,yc,rfl⟩:=hrow.slice;have s1':wr.cell? ⟨Cb,k*2,none⟩=some (.int .i64 (ids.getD k 0)):=by rw[jy];exact hEr.cell s1
   have s2':wr.cell? ⟨Cb,k*2+1,none⟩=some (.slice ya (D7 (bss.getD k [])).length yc):=by rw[jy];exact hEr.cell s2
   obtain⟨yl,hyl⟩:∃yl,(D7 (bss.getD k [])).length=yl:=⟨_,rfl⟩;obtain⟨YB,Ug⟩:∃x,ids.getD k 0=x:=⟨_,rfl⟩;rw[hyl] at s2';rw[Ug] at s1';obtain⟨w5,hw5⟩:∃w5,wr.alloc (.cells #[.int .i64 YB,.slice ya yl yc] 154)=w5:=⟨_,rfl⟩;have hb5:o6 w5 wr 154 #[.int .i64 YB,.slice ya yl yc]:=hw5▸jR _ _ rfl;have kE:Ext wr w5:=hw5▸(dh wr).new _;have Gm:=uZ.ext kE;have hEB:=hEr.trans kE;have m1:=(Gm.box.cell 1).trans (show _=some (Value.slice (some ⟨fb,0,none⟩) n n) from rfl);have fk:=(Gm.row.cell k).trans (wm hlt);rw[if_pos hlt] at fk;have x0:=(hb5.cell 0).trans (show _=some (Value.int .i64 YB) from rfl);have x1:=(hb5.cell 1).trans (show _=some (Value.slice ya yl yc) from rfl);have hlk:=HL.out k;have hkp:=c2x mb sb r old n k YB (.slice ya yl yc) _ _ _ _ _ _ _ _ bss w5 Gm.box ((hEB.block sb Nk.out.lt).trans Nk.out) (by rw[EI.out,HN.out]) hlt Gm.om (by have:=HLA.out.ext hEB;rwa [HN.out] at this) (by rw[<-hyl];exact hrow.keep λg hg=>hEB.block g (hrow.lt hg)) aj aj;have AO:=ah hkp;have XT:=ah Gm;have NA:=ah hEB;have eW:=ah hw5;have HG:=ah hG;clear hkp Gm hEB hw5 hG uZ hb5 hrow s1 s2 kE hyl Ug hEr;unfold l9 at AO;go_upto_region 6 with fail
   rw[eW.out];go_wp2_with fail
   refine AO.out.mono ?_;rintro e w6 ⟨v,rfl,hv,mY⟩;obtain⟨va,vc,rfl⟩:=ownsRow_form hv;have YI:=XT.out.ext mY;have yO:=NA.out.trans mY;have hv6:=H6 hv (show wB.heap.size<=w5 from NA.out.size);have hnx:=next_any mb tr cur _ _ _ _ D.list w6 YI.box YI.tk ((HP.out.less λ_ h=>h.elim).ext yO) nQ.1 nQ.2;have vX:=b6A bss n k;obtain⟨kb,hkb⟩:∃kb,wV bss n k=kb:=⟨_,rfl⟩;rw[hkb] at hv6 vX⊢;obtain⟨kl,hkl⟩:∃kl,kb.length=kl:=⟨_,rfl⟩;have Nu:=ah hnx;have Ln:=ah YI;have QL:=ah hv6;have xq:=ah yO;have DI:=ah vX;have Yc:=ah hkl;rw[hkl];clear hnx YI hv6 yO vX hkb hv AO mY XT NA m1 fk x0 x1 s1' s2' eW hkl;by_cases hz:kl=0
   ·obtain rfl:kb=[]:=dL (Yc.out.trans hz);have hs2:=DI.out;rw[if_pos rfl,dX] at hs2;have hz2:((kl:Int)==0)=true:=by rw[hz];rfl
    have HS2:=ah hs2;clear hs2 hz;go_wp2_with fail
    go_roundw
    case rel=>exact⟨k+1,cur,u,gU,ms,iE,rfl,aj,nQ,aj,by rw[HS2.out];exact Ln.out,HG.out,xq.out⟩
    case measure=>simp[intOf];omega
   ·have hz2:((kl:Int)==0)=false:=bG.2 aj;have hs2:=DI.out;rw[if_neg λh=>hz (by rw[<-Yc.out,h];rfl)] at hs2;have HS2:=ah hs2;clear hs2;unfold l9 at Nu;go_wp2_with fail
    refine Nu.out.mono ?_;rintro e w7 ⟨r9,rfl,hnx,hr1,xP⟩;have hr9:r9<=999999:=yx.out M gU cur r9 HM.out HG.out aj hnx hr1;have zT:=Ln.out.ext xP;have hnew:r9∉gU:=λh=>by have:=(HG.out.le.2.1 r9 h).2.1;have:=hnx.le;omega
    obtain⟨w8,hrun,W2,UK⟩:=zT.put (k:=r9) aj hnew (.slice va kl vc);obtain⟨ua,uc,hue⟩:=ownsRow_form zT.own;have hln:(W9 gU).length=gU.length:=aZ
    rw[hln] at hue;subst hue;have RJ:w8.ownsRow wB 3 1 (.slice ua gU.length uc) gU.length ((W9 gU).map (Value.int .i64)):=by
     have h8:jd w8 wB (.slice ua gU.length uc) (W9 gU):=jH.row zT.own w8 λb hb=>UK.block b λe=>by have h1:=MF zT.own hb;rw[e,zT.fm.kind] at h1;cases h1
     unfold jd at h8;rwa [hln] at h8
    have hmb:mb≠f2:=λe=>by have h1:=zT.box.kind;rw[e,zT.fm.kind] at h1;cases h1
    have hb8:=UK.box zT.box hmb;have q3:=(hb8.cell 3).trans (show _=some (Value.slice ua gU.length uc) from rfl);have hdr:decide ((r9:Int)>999999)=false:=aK aj;have hv7:OwnB w7 wB (.slice va kl vc) kb:=by have h:=ownsRow_below QL.out xP;have e:=Yc.out;unfold OwnB;rw[e] at h⊢;exact h
    have hG2:=HG.out.snoc hnx hr9;have Va:=xq.out.trans xP;have Pj:Ext wB w8:=Ext.off Va UK zT.lo.2.2.2.2.1;have qa9:=Pj.size;have mz:wB.heap.size<=mb:=zT.lo.1;have HR7:=ah zT;have Ya:=ah W2;have HO8:=ah UK;have MX:=ah RJ;have HB8:=ah hb8;have HV7:=ah hv7;have HG2:=ah hG2;have NX:=ah Pj;have HMB:=ah hmb;clear zT W2 UK RJ hb8 hv7 hG2 Pj hnew hnx xP Va hln Nu HG QL Ln xq DI hz hmb;go_wp2_with (at_builtin;go_must (refine A8 rfl _ _ 69 rfl wB 3 ii (.int .i64 0) 1 8 underlying69 mN hi0 hi1 hi2 rfl aj (.slice ua gU.length uc) gU.length _ rfl (World.ownsRow.alloc MX.out (.cells #[.int .i64 r9] 3)) (.slice (some ⟨w8,0,none⟩) 1 1) 1 [.int .i64 r9] rfl (Qo w8 _ _) rfl qV lJ aj iw ?_);intro b9 c9 w9 jX jL uG;clear uG;have uY:o6 w9 mb 255 _:=(HB8.out.alloc (.cells #[.int .i64 r9] 3)).grown' jL (ownsRow_ne (World.ownsRow.alloc MX.out (.cells #[.int .i64 r9] 3)) (HB8.out.alloc (.cells #[.int .i64 r9] 3)) dA);have q9:=(uY.cell 3).trans (show _=some (Value.slice ua gU.length uc) from rfl);have f9:=uY.free 3;have QN:=ah jX;have Yh:=ah jL;clear jX jL uY)
    go_roundw
    case rel=>
     have hu9:jd w9 wB (.slice b9 (gU.length+1) c9) (W9 (gU++[r9])):=by
      have e:W9 (gU++[r9])=W9 gU++[(r9:Int)]:=by simp[W9]
      rw[e];unfold jd;rw[aY,aC,bV];exact QN.out
     have qh:Ext wB w9:=Below.grown (NX.out.new _) Yh.out iw λr hr=>(World.ownsRow.lt MX.out r hr).1;refine⟨k+1,r9+1,_,gU++[r9],_,iE,iE,aj,aj,iw,by rw[HS2.out];exact HR7.out.add HV7.out HO8.out Ya.out Yh.out hu9,HG2.out,qh.qF (a:=⟨mb,3,none⟩) mz⟩
    case measure=>simp[intOf];omega
  ·obtain rfl:k=n:=aj
   obtain⟨ua,uc,hue⟩:=ownsRow_form uZ.own;rw[show(W9 gU).length=gU.length by simp] at hue;subst hue;have q3:=(uZ.box.cell 3).trans (show _=some (Value.slice ua gU.length uc) from rfl);have hnb:(GN bss k k).length<=60:=by rw[A5];exact ay (ZR bss k) pO
   have hlen:gU.length=(GN bss k k).length:=uZ.len.symm;have hbb:∀b∈GN bss k k,b.length<=1048576:=B6 HL.out;have rW:=Held.and (uZ.held HF.out) (Held.and (HST.out.ext hEr) (HP.out.ext hEr));have hD0:=HD.out.ext hEr;have hwf:=HD.out.wf;have hfin:Qa D ids bss gU:=⟨by rw[HN.out,<-A5];exact hlen,M,cur,XZ.out,HM.out,hG⟩;obtain⟨bs,hbs⟩:∃bs,GN bss k k=bs:=⟨_,rfl⟩;rw[hbs] at hnb hlen hbb rW;have Uz:bs=lX bss ids.length:=by rw[HN.out,<-hbs];rfl
   have HH:=ah rW;have HEr:=ah hEr;have HG:=ah hG;have HBB:=ah hbb;have Ny:=ah hlen;have XO:=ah hwf;have EG:=ah hfin;have Yr:=ah Uz;have HD0:=ah hD0;clear rW hEr hG hbb uZ hD0 hwf hfin Uz hbs;go_wp2_with fail
   go_loopw [96] (λi wx=>∃(j:Nat)(F':tyP)(D':Dk.D),i=.int .i64 j/\j<=gU.length/\o7 wx F' a D'/\D.Wr ((gU.zip bs).take j) D'/\Held wx F' (λW=>Rw W wB sb mb fb old tr k f2 D.list (.slice ua gU.length uc) gU ms bs/\Df W sb a gen ids bss/\S9 W)/\iq F F' wr wx/\∀b,F b->F' b) (λi _=>gU.length - (intOf i).toNat)
   case atStart=>exact⟨0,F,D,rfl,aj,HD0.out,.nil,HH.out,iq.refl F wr,λ_ h=>h⟩
   case round=>
    rename World=>wx
    obtain⟨j,F',D',rfl,hj,hD',BZ,hHd,hC,pC⟩:=hrel;by_cases hjl:j<gU.length
    ·have hji:(j:Int)<(gU.length:Int):=aj
     obtain⟨y,hy⟩:∃y,gU[j]?=some y:=⟨_,au hjl⟩;obtain⟨b,hb⟩:∃b,bs[j]?=some b:=⟨_,au (by have:=Ny.out;omega)⟩;have hye:=(aJ.1 hy).2;have hy2:=(HG.out.le.2.1 y (aH hy)).2.2.1;obtain⟨uZ,hSt,hPx⟩:=hHd.get;obtain⟨ad,e,ck⟩:=Ints.at (l:=W9 gU) (a:=ua) (cap:=uc) (by rw[show(W9 gU).length=gU.length by simp];exact uZ.own.ints) (dh wx) (k:=j) (by simpa using hjl);subst e;have ck':wx.cell? (ad.add j)=some (.int .i64 (y:Int)):=by rw[ck];simp[hye]
     obtain⟨_,_,_,_,_,hsb,-⟩:=hSt;have m0x:=(uZ.box.cell 0).trans (show _=some (l9 sb) from rfl);have b0x:=(hsb.cell 0).trans (show _=some (l9 a) from rfl);obtain⟨v,hlk,hms⟩:=uZ.look hy aj (c6a wx);have hvb:=uZ.vals j _ b hms hb;obtain⟨va,vc,V1⟩:=ownsRow_form hvb;dsimp only at V1;subst V1;obtain⟨s1,s2,s3,s4,s5,s6⟩:=HR.out.write XO.out hc BZ HBB.out HG.out Ny.out aj hy;have hbl:b.length<=1048576:=HBB.out b (aH hb);have hby:Held wx F' (λW=>Bytes W (.slice va b.length vc) b):=hHd.mono λW h=>(h.1.vals j _ b hms hb).bytes;have ng:Ext wx wx.drew:=Below.drew (dh wx);have hkn:=Qs D6 y wx.drew dA aj (hPx.ext ng);have hwr:∀wq,Ext wx.drew wq->Calls prog 140 #[l9 a,bJ (y7 D6 y),.slice va b.length vc] wq (ZQ F' a D' (y7 D6 y) b wq):=λwq hq=>write_any F' a D' _ _ b wq (hD'.ext (ng.trans hq)) s1 s2 (s3 b hbl) (by rw[Ek];simp[D6,maxLen]) aj (hby.ext (ng.trans hq)) aj (λx hx=>ay (s5 x hx) dA) aj
     have hts:(gU.zip bs).take (j+1)=(gU.zip bs).take j++[(y,b)]:=by rw[cO,(List.getElem?_zip_eq_some (z:=(y,b))).2 ⟨hy,hb⟩];rfl
     have m0d:=ng.cell m0x;have b0d:=ng.cell b0x;have EF:=ah hkn;have JA:=ah hwr;have KB:=ah hts;have HHD:=ah hHd;have J0:=ah BZ;have HC:=ah hC;have HFF:=ah pC;have uS:=ah ng;clear hkn hwr hts hHd BZ hC pC ng hvb hby hms hD' uZ hPx hsb ck hye s1 s2 s3 s4 s5 s6;unfold l9 bJ D6 at EF JA;unfold l9 at *;go_upto_region 24 with fail
     go_cut [13] (λv wy=>v=.nilIface/\∃F2 D2,o7 wy F2 a D2/\D.Wr ((gU.zip bs).take (j+1)) D2/\iq F' F2 wx wy/\∀q,F' q->F2 q)
     case first=>
      go_region_with (first|(go_at_call 56;refine EF.out.mono ?_;rintro e wq ⟨rfl,hEq⟩;have m0q:=hEq.cell m0d;have b0q:=hEq.cell b0d)|(go_at_call 140;refine(JA.out _ hEq).mono ?_;rintro e wv ⟨rfl,x,F2,hx,hD2,hC2,hF2⟩))
      all_goals
       go_wp2_with fail
       go_meet
       exact⟨rfl,F2,_,hD2,by rw[KB.out];exact J0.out.snoc y b hx,(iV (uS.out.trans hEq)).trans hC2,hF2⟩
     case rest=>
      obtain⟨rfl,F2,D2,hD2,hW2,hC2,hF2⟩:=hcut;have hH2:=HHD.out.step hC2;have NC:=ah hH2;have HD2:=ah hD2;have HW2:=ah hW2;have HC2:=ah (HC.out.trans hC2);have HF2:=ah λq hq=>hF2 q (HFF.out q hq);clear hH2 hD2 hW2 hC2 hF2;go_wp2_with fail
      go_roundw
      case rel=>exact⟨j+1,F2,D2,iE,aj,HD2.out,HW2.out,NC.out,HC2.out,HF2.out⟩
      case measure=>simp[intOf];omega
    ·obtain rfl:j=gU.length:=aj
     have hzl:(gU.zip bs).length=gU.length:=by rw[List.length_zip,<-Ny.out,Nat.min_self]
     rw[bU aj] at BZ;have hend:ci wB F D a sb mb fb old tr ids bss (.returned .nilIface) wx:=⟨rfl,f2,_,gU,ms,F',D',hHd.mono λW h=>(by have q:=h.1;rw[Yr.out] at q;rw[HN.out] at q⊢;exact q),EG.out,Yr.out▸BZ,hD',(iV HEr.out).trans hC,pC⟩
     have Ni:=ah hend;clear hend hHd BZ hD' hC;go_wp2_with fail
     go_ret;exact Ni.out
def kw(F:tyP)(a:Nat)(d:D)(w:aB)(e:Ending)(w':aB):Prop:=
 e=.returned .nilIface/\∃b,o7 w' b a d/\iq F b w w'/\∀q,F q->b q
section
variable(F:Nat->Prop)(a b3 b5 b1 mb:Nat)(d:D)(w:World)
theorem c96(u:aX)(l:dV)(q:o6 w b5 30 #[l9 a])(r:o6 w b3 25 #[u])(h:o7 w F a d)(p:d.Syn)(n:A7 d.now H5=none)(s:(l.length:Int)<=d.room - d.used)(g:d.moves.length<=1000000)(i:Held w F (λW=>Bytes W u l))(y:l.length<=35184372088832)(c:∀x∈d.ids,(d.node x).data.length<=35184372088832)(j:d.now.length<=32000):
 Calls prog 142 #[.pointer (some b5),.pointer (some b3)] w (ZQ F a d H5 l w):=by
 have B:=(q.cell 0).trans rfl;have A:=(r.cell 0).trans rfl;go_enter func142,ntmps142
 go_wp2_with fail
 refine (write_any F a d H5 u l w h p n s dA g i y c j).mono ?_;rintro e C ⟨rfl,b⟩;go_wp2;go_ret;trivial
theorem c97(j:D)(i:o6 w b5 30 #[l9 a])(h:o7 w F a d)(c:d.moves.length<=1000000)(m:d.rename H5 y8=(.ok,j)):
 Calls prog 143 #[.pointer (some b5)] w (kw F a j w):=by
 have f:=b6W F a d H5 y8 w h dA dA c;have q:=(i.cell 0).trans rfl;rw[m] at f;go_enter func143,ntmps143
 go_wp2_with fail
 refine f.mono ?_;rintro e r ⟨o,n,rfl,b,l⟩;obtain rfl:n=.nilIface:=b.get;go_wp2;go_ret;exact⟨rfl,o,l⟩
theorem c98(b:fC)(u I P C E:aX)(d':D)(v:o6 w b5 30 #[l9 a])(j:o6 w b1 189 #[l9 mb])(s:o6 w mb 255 #[I,P,C,u,E])(h:o7 w F a d)(hc:d.Calm)(i:(d.now.map (·.1)).Nodup)(hv:Held w F (λW=>Ints W u b))(hi:zk b)(hl:S9 w)(r:d.now.length<=32768)
 (q:d.moves.length<=900000)(f:∀l∈d.moves,l.length<=1000000/\∀m∈l,m.1.length<=maxLen)(g:∀p∈d.now,p.1.length<=1000000)(t:d.sweep b=(.ok,d')):
 Calls prog 145 #[.pointer (some b5),.pointer (some b1)] w (kw F a d' w):=by
 obtain⟨N,H,rfl,M,X,-⟩:=hv.get.open;have O:=(v.cell 0).trans (show _=some (l9 a) from rfl);have Q:=(j.cell 0).trans (show _=some (l9 mb) from rfl);have L:=(s.cell 3).trans (show _=some (Value.slice N b.length H) from rfl);have c:Ext w w.drew:=Below.drew (dh w);have hw:=sweep_any F a d b _ w.drew (h.ext c) hc i (hv.ext c) hi (hl.ext c) r q f g;rw[t] at hw;have U:=c.cell O;have T:=c.cell Q;have V:=c.cell L;have HW:=ah hw;have J:=ah c;clear v j s h hv hw t c hc i hi hl f g;unfold l9 at *;go_enter func145,ntmps145
 go_upto_region 1 with fail
 go_region_with (go_at_call 78;refine HW.out.mono ?_;rintro e Y ⟨rfl,K⟩)
 all_goals
  go_wp2_with fail
  go_ret;obtain⟨G,j,S,R⟩:=K;exact⟨rfl,G,j,(iV J.out).trans S,R⟩
end
def Br{P:Program}{c:Code}{Q:Exit->Act->World->Prop}{a:Act}{w:aB}{cs:dU}{t:bT}(h:∀b,Ext w b->o6 b w t cs->c.wp P Q a b):c.wp P Q a (w.alloc (.cells cs t)):=h _ ((dh w).new _) (.new _ _ rfl)
def cn(F:tyP)(a f h b i g sb e c:Nat)(x k l u:aX)(d:fC)(bss:fJ)(L:List Nm)(m:List Nat)(j:dV)(B:Nat)(W:aB):Prop:=
 o6 W i 123 #[.func (.func 142) #[] #[.pointer (some b),.pointer (some h)],.func (.func 143) #[] #[.pointer (some b)],.func (.func 53) #[.pointer (some a)] #[],.func (.func 145) #[] #[.pointer (some b),.pointer (some f)]]/\
  o6 W f 189 #[.pointer (some g)]/\o6 W h 25 #[x]/\o6 W b 30 #[.pointer (some a)]/\OwnB W B x j/\o6 W g 255 #[.pointer (some sb),k,l,u,.map (some e)]/\vG W e (wZ L)/\Ints W u (W9 m)/\Df W sb a c d bss/\S9 W
def dT(F:tyP)(a c:Nat)(d:D)(g:List Nat)(w:aB)(e:Ending)(w':aB):Prop:=
 e=.returned .nilIface/\∃b f,o7 w' b a f/\d.Com (summed (U8 ((c+1)%18446744073709551616) (W9 g))) (W9 g) f/\iq F b w w'/\∀q,F q->b q
theorem b6n(F:Nat->Prop)(D:Dk.D)(a sb mb tr gen:Nat)(ids:List Int)(bss:List (List UInt8))(L:List Nm)(u x1 x2:Value)(gU:List Nat)(w:World)
 (hc:Held w F (λW=>o6 W mb 255 #[l9 sb,x1,x2,u,.map (some tr)]/\vG W tr (wZ L)/\Ints W u (W9 gU)/\Df W sb a gen ids bss/\S9 W))(hD:o7 w F a D)(hs:D.Syn)(hok:Q7 (W9 gU)=true)(htk:H5∈L<->A7 D.now H5≠none)
 (hroom:∀b:List UInt8,b.length<=1048576->(b.length:Int)<=D.room - D.used)(hml:D.moves.length<=60)(hms:∀l∈D.moves,l.length<=1000000/\∀m∈l,m.1.length<=1000000)(hds:∀x∈D.ids,(D.node x).data.length<=1048576)(hnl:D.now.length<=1060)(hnm:∀p∈D.now,p.1.length<=1000000):
 Calls prog 83 #[l9 mb] w (dT F a gen D gU w):=by
 obtain⟨hb,hk,hi,⟨_,_,_,_,_,hsb,-⟩,hP⟩:=hc.get;obtain⟨ua,uc,rfl,huc,FZ,-⟩:=hi.open;have hll:(W9 gU).length=gU.length:=by simp
 obtain⟨gn,hgn⟩:∃gn,(gen+1)%18446744073709551616=gn:=⟨_,rfl⟩;obtain⟨ms,BM⟩:∃ms,summed (U8 gn (W9 gU))=ms:=⟨_,rfl⟩;have hid:=hok;unfold Q7 at hid;simp only[aI,bZ] at hid;have pO:gU.length<=60:=by rw[<-hll];exact hid.1
 have qb7:ms.length<=300:=by rw[<-BM];unfold summed U8;simp only[aC,H7,U6,hll];omega
 have hwf:∀n∈W9 gU,(Lit.int .i64 n).wf=true:=λn hn=>by obtain⟨k,hk,rfl⟩:=aQ.1 hn;have:=aU.1 hid.2.1 _ hn;unfold inRange at this;simp only[aI,bZ] at this;exact ZU (by omega)
 have HC:=ah hc;unfold l9 at *;go_enter func83,ntmps83
 go_upto_region 1 with fail
 refine Br λw1 hE1 hx1=>?_;obtain⟨b1,hb1⟩:∃b1,w.heap.size=b1:=⟨_,rfl⟩;rw[hb1] at hx1⊢;have ED:=ah hx1;have lQ:=ah hE1;have hb1':=hE1.block mb hb.lt;go_cut [3,4] (λv3 v4 wx=>v4=.nilIface/\∃b3 x,v3=.pointer (some ⟨b3,0,none⟩)/\w1.heap.size<=b3/\o6 wx b3 25 #[x]/\OwnB wx w1.heap.size x ms/\Ext w1 wx)
 case first=>
  have ng:Ext w1 w1.drew:=Below.drew (dh w1);have hE2:Ext w w1.drew:=lQ.out.trans ng;have c1:=ng.cell ((ED.out.cell 0).trans (show _=some (Value.pointer (some ⟨mb,0,none⟩)) from rfl));have m0:=hE2.cell ((hb.cell 0).trans (show _=some (Value.pointer (some ⟨sb,0,none⟩)) from rfl));have m3:=hE2.cell ((hb.cell 3).trans (show _=some (Value.slice ua (W9 gU).length uc) from rfl));have s1:=hE2.cell ((hsb.cell 1).trans (show _=some (Value.int .u64 gen) from rfl));have hgw:IntKind.u64.wrap ((gen:Int)+1)=(gn:Int):=by rw[IntKind.wrap_u64];omega
  have hwm:∀wq,Ext w1 wq->Calls prog 141 #[.agg #[.int .u64 (IntKind.u64.wrap ((gen:Int)+1)),.slice ua gU.length uc]] wq (λe w'=>∃xa xc,e=.returned (.tuple #[.slice xa ms.length xc,.nilIface])/\OwnB w' wq.heap.size (.slice xa ms.length xc) ms/\Ext wq w'):=λwq hq=>by
   rw[hgw,<-hll];refine(b4c gn _ (W9 gU) wq (hi.ext (lQ.out.trans hq)) hwf).mono ?_;rintro e w' ⟨x,y,e1,hE,hcs⟩;rcases hcs with⟨-,rfl,h3⟩|⟨h1,-⟩
   ·rw[BM] at h3;obtain⟨xa,xc,rfl⟩:=ownsRow_form h3;exact⟨xa,xc,e1,h3,hE⟩
   ·rw[hok] at h1;cases h1
  rw[hll] at m3;have hkp:∀W:World,Ext w1.drew W->(Ext w1 W/\W.cell? ⟨b1,0,none⟩=some (Value.pointer (some ⟨mb,0,none⟩))/\W.cell? ⟨mb,0,none⟩=some (Value.pointer (some ⟨sb,0,none⟩))/\W.cell? ⟨mb,3,none⟩=some (Value.slice ua gU.length uc)/\W.cell? ⟨sb,1,none⟩=some (Value.int .u64 gen)):=λW hE=>⟨(Below.drew (dh w1):Ext w1 w1.drew).trans hE,hE.cell c1,hE.cell m0,hE.cell m3,hE.cell s1⟩;have hea:∀o,Ext w1.drew (w1.alloc o).drew:=λo=>⟨rfl,rfl,rfl,by simp,λb hb=>heap_alloc_old _ _ hb⟩;have AO:=ah hkp;have uh:=ah hea;have eN:=ah hwm;have uS:=ah ng;clear hkp hea hgw hwm ng hE2 BM hgn hid hwf hi hc hb hk hP hsb hD hs htk hroom hms hds hnm hok;go_region_held3 (λw'=>Ext w1 w'/\w'.cell? ⟨b1,0,none⟩=some (Value.pointer (some ⟨mb,0,none⟩))/\w'.cell? ⟨mb,0,none⟩=some (Value.pointer (some ⟨sb,0,none⟩))/\w'.cell? ⟨mb,3,none⟩=some (Value.slice ua gU.length uc)/\w'.cell? ⟨sb,1,none⟩=some (Value.int .u64 gen))
   (first|exact AO.out _ (dh _)|exact AO.out _ hE|exact AO.out _ (Ext.new hE _)|exact AO.out _ (uh.out _)|exact AO.out _ ((uh.out _).trans hE)|exact AO.out _ (((uh.out _).trans hE).qF (by simp)))
   (first|(go_at_call 141;refine(eN.out _ (And.left (by assumption))).mono ?_;rintro e wq ⟨xa,xc,rfl,hO,hE⟩;first|(have hz:o6 wq _ 25 #[Value.slice none 0 0]:=(hE.block _ (by simp)).trans (heap_alloc_new _ _);have cz:=(hz.cell 0).trans (show _=some (Value.slice none 0 0) from rfl);have fz:=hz.free 0)|skip))
  all_goals
   go_wp2_with fail
   go_meet
   first
   | exact⟨rfl,_,_,rfl,hE.size,jR _ _ rfl,World.ownsRow.alloc hO _,(uS.out.trans hE).new _⟩
   | exact⟨rfl,_,_,rfl,ak _,hz.set 0 _,ownsRow_setCell_other (a:=⟨w1.heap.size,0,none⟩) (H6 hO (by simp)) (ownsRow_ne hO hz (by decide)) _,(uS.out.trans ((uh.out _).trans hE)).qF (by simp)⟩
 case rest=>
  obtain⟨rfl,b3,x,rfl,hb3,h3,hx,oz⟩:=hcut;have ou:=lQ.out.trans oz;have c1:=oz.cell ((ED.out.cell 0).trans (show _=some (Value.pointer (some ⟨mb,0,none⟩)) from rfl));have m0:=ou.cell ((hb.cell 0).trans (show _=some (Value.pointer (some ⟨sb,0,none⟩)) from rfl));have s0:=ou.cell ((hsb.cell 0).trans (show _=some (Value.pointer (some ⟨a,0,none⟩)) from rfl));obtain⟨b5,hb5⟩:∃b5,wc.heap.size=b5:=⟨_,rfl⟩;have h13:b1<w1.heap.size:=ED.out.lt;have h35:b3<wc.heap.size:=h3.lt;have hF:∀b,F b->b<w.heap.size:=hD.low;have yQ:∀w5,Ext wc w5->o6 w5 b5 30 #[l9 a]->Held w5 F (λW=>o6 W b1 189 #[l9 mb]/\o6 W b3 25 #[x]/\o6 W b5 30 #[l9 a]/\OwnB W w1.heap.size x ms/\o6 W mb 255 #[l9 sb,x1,x2,.slice ua (W9 gU).length uc,.map (some tr)]/\vG W tr (wZ L)/\Ints W (.slice ua (W9 gU).length uc) (W9 gU)/\Df W sb a gen ids bss/\S9 W)/\o7 w5 F a D/\iq F F w w5:=λw5 kE hbx=>by
   have q1:=(oz.trans kE).block b1 h13;have q2:=kE.block b3 h35;have e:=lQ.out.size;have e2:=oz.size;refine⟨Held.and (Held.box (q1.trans ED.out) λh=>?_) (Held.and (Held.box (q2.trans h3) λh=>?_) (Held.and (Held.box hbx λh=>?_) (Held.and (Held.ownB (ownsRow_below hx kE) λb hb h=>?_) (HC.out.ext (ou.trans kE))))),hD.ext (ou.trans kE),iV (ou.trans kE)⟩
   ·have:=hF _ h;omega
   ·have:=hF _ h;omega
   ·have:=hF _ h;omega
   ·have:=hF _ h;have:=(World.ownsRow.lt hx b hb).1;omega
  have m4:=ou.cell ((hb.cell 4).trans (show _=some (Value.map (some tr)) from rfl));have Ua:∀w5,Ext wc w5->(Instr.lookup 247 (.map (some tr)) (bJ H5) false).run prog w5=.ok (.int .i64 (if H5∈L then 1 else 0)) w5:=λw5 kE=>by
   have:=(hk.ext (ou.trans kE)).look X0 U0 underlying247 (VU w5) (vI (l:=H5) (by decide));rw[Lt] at this;split<;>rename_i hc
   ·rw[if_pos hc] at this;exact this
   ·rw[if_neg hc] at this;exact this
  have JK:=ah yQ;have uf:=ah Ua;have HS:=ah hs;have Nc:=ah htk;have JD:=ah hroom;have HMS:=ah hms;have DT:=ah hds;have nR:=ah hnm;have Ly:=ah hok;have LN:=ah BM;have HGN:=ah hgn;have HD:=ah hD;clear yQ Ua hs htk hroom hms hds hnm hok hx h3 oz ou hi hc hk hP hsb BM hgn hD hF hb hid hwf;unfold l9 at JK;go_upto_region 5 with fail
  refine Br λw5 kE hbx=>?_;rw[hb5] at hbx;obtain⟨hH5,hD5,Vf⟩:=JK.out w5 kE hbx;have hlk:=uf.out w5 kE;obtain⟨tv,Gf⟩:∃tv:Int,(if H5∈L then 1 else 0)=tv:=⟨_,rfl⟩;rw[Gf] at hlk;have c1':=kE.cell c1;have m0':=kE.cell m0;have m4':=kE.cell m4;have d5:=(hbx.cell 0).trans (show _=some (Value.pointer (some ⟨a,0,none⟩)) from rfl);have Nz:=ah hH5;have HD5:=ah hD5;have NP:=ah Vf;have Ks:=ah Gf;clear hH5 hD5 Vf kE hbx c1 m0 m4 s0 JK uf ED lQ HC Gf;rw[show bJ H5=Value.string ⟨#[109,97,110,105,102,101,115,116,46,110,101,119]⟩ from rfl] at hlk;go_upto_if 44 with fail
  go_cut [5] (λv wx=>v=.pointer (some ⟨b5,0,none⟩)/\∃F2 D2,o7 wx F2 a D2/\D.DV D2/\iq F F2 w wx/\(∀q,F q->F2 q)/\Held wx F2 (λW=>o6 W b1 189 #[.pointer (some ⟨mb,0,none⟩)]/\o6 W b3 25 #[x]/\o6 W b5 30 #[.pointer (some ⟨a,0,none⟩)]/\OwnB W w1.heap.size x ms/\o6 W mb 255 #[.pointer (some ⟨sb,0,none⟩),x1,x2,.slice ua (W9 gU).length uc,.map (some tr)]/\vG W tr (wZ L)/\Ints W (.slice ua (W9 gU).length uc) (W9 gU)/\Df W sb a gen ids bss/\S9 W))
  case first=>
   by_cases hin:H5∈L
   ·have hrm:=GG F a D H5 w5 HD5.out (by decide) (by omega);have hmem:H5∈D.now.map (·.1):=bW λh=>Nc.out.1 hin (G8.2 h);rw[HS.out.calm.remove hmem] at hrm;have Gf:=Ks.out;rw[if_pos hin] at Gf;subst Gf;have yx:=ah hrm;clear hrm hin hmem;unfold l9 bJ H5 y8 at yx;go_wp2_with fail
    refine yx.out.mono ?_;rintro e w6 ⟨F2,v2,rfl,hv2,hD2,hC2,hF2⟩;obtain rfl:v2=.nilIface:=hv2.get;have hfin:=And.intro (Nz.out.step hC2) (NP.out.trans hC2);have qo:=ah hfin;have HD2:=ah hD2;have HF2:=ah hF2;clear hfin hD2 hC2 hF2 hv2 yx;go_wp2_with fail
    go_meet
    exact⟨rfl,F2,_,HD2.out,HS.out.LU,qo.out.2,HF2.out,qo.out.1⟩
   ·have Gf:=Ks.out;rw[if_neg hin] at Gf;subst Gf;have hno:A7 D.now H5=none:=bW λh=>hin (Nc.out.2 h);have LA:=ah hno;clear hin hno;go_wp2_with fail
    go_meet
    exact⟨rfl,F,D,HD5.out,HS.out.away LA.out,NP.out,λ_ h=>h,Nz.out⟩
  case rest=>
   rename World=>w7
   obtain⟨rfl,F2,D2,hD2,hA,hC2,hF2,hH2⟩:=hcut;obtain⟨q1,q3,q5,-⟩:=hH2.get;have d5:=(q5.cell 0).trans (show _=some (Value.pointer (some ⟨a,0,none⟩)) from rfl);have hmf:∀(fn:Fn)(first cap:Array Value)(w:World),(Instr.makeFunc fn first cap).run prog w=.ok (.func fn first cap) w:=λ_ _ _ _=>rfl;obtain⟨b7,hb7⟩:∃b7,w7.heap.size=b7:=⟨_,rfl⟩;have HA:=ah hA;have HD2:=ah hD2;have HC2:=ah hC2;have HF2:=ah hF2;have NC:=ah hH2;clear hA hD2 hC2 hF2 hH2 q1 q3 q5 Nz HD5 NP Ks Nc hlk c1' m0' m4';go_upto_region 10 with fail
   refine Br λw9 qh hbx=>?_;rw[hb7] at hbx;have an:=Held.and (Held.box hbx λh=>by have:=HD2.out.low b7 h;omega) (NC.out.ext qh);have Ve:=HD2.out.ext qh;have a_:=HC2.out.trans (iV qh);have hl2:=HA.out.len;have hm2:=HA.out.moves;have hr2:(ms.length:Int)<=D2.room - D2.used:=by have h1:=JD.out ms (by omega);have h2:=HA.out.used;rw[HA.out.room];omega
   have hcom:∀x∉D2.ids,_:=λx hx=>HA.out.commit ms hx hr2 (W9 gU);have Ut:∀y∈D2.ids,(D2.node y).data.length<=1048576:=λy hy=>by rw[HA.out.ids] at hy;rw[HA.out.node];exact DT.out y hy
   have HH9:=ah an;have HD9:=ah Ve;have HC9:=ah a_;have HR2:=ah hr2;have NK:=ah hcom;have N5:=ah Ut;clear an Ve a_ hr2 hcom Ut qh hbx d5 HD2 HC2 NC JD DT;have hH0:Held w9 F2 (cn F a b1 b3 b5 b7 mb sb tr gen x x1 x2 (.slice ua (W9 gU).length uc) ids bss L gU ms w1.heap.size):=HH9.out;have HH0:=ah hH0;clear hH0 HH9;go_wp2_with fail
   go_loopw [58] (λi wr=>∃Fk Dk,(o7 wr Fk a Dk/\iq F Fk w wr/\(∀q,F q->Fk q)/\Held wr Fk (cn F a b1 b3 b5 b7 mb sb tr gen x x1 x2 (.slice ua (W9 gU).length uc) ids bss L gU ms w1.heap.size))/\
    (i=.int .i64 0/\Dk=D2\/i=.int .i64 1/\(∃y,y∉D2.ids/\Dk=D2.wrote H5 ms y)\/i=.int .i64 2/\(∃y,y∉D2.ids/\(D2.wrote H5 ms y).rename H5 y8=(.ok,Dk))\/i=.int .i64 3/\(∃y d3,y∉D2.ids/\(D2.wrote H5 ms y).rename H5 y8=(.ok,d3)/\d3.jc=(.ok,Dk))\/i=.int .i64 4/\D.Com ms (W9 gU) Dk)) (λi _=>4 - (intOf i).toNat)
   case atStart=>exact⟨F2,D2,⟨HD9.out,HC9.out,HF2.out,HH0.out⟩,.inl ⟨rfl,rfl⟩⟩
   case round=>
    obtain⟨Fk,Dk,⟨wM,yP,KU,hHk⟩,h⟩:=hrel;obtain⟨r7,r1,r3,r5,rx,rm,rk,ri,rs,rp⟩:=hHk.get;have hby:Held wr Fk (λW=>Bytes W x ms):=hHk.mono λW h=>h.2.2.2.2.1.bytes;have hin:Held wr Fk (λW=>Ints W (.slice ua (W9 gU).length uc) (W9 gU)):=hHk.mono λW h=>h.2.2.2.2.2.2.2.1;have Yg:=ah hHk;have EH:=ah yP;have ND:=ah KU;rcases h with⟨rfl,rfl⟩|⟨rfl,y,hy,rfl⟩|⟨rfl,y,hy,hr⟩|⟨rfl,y,d3,hy,hr,hs3⟩|⟨rfl,hend⟩
    ·have c0:=(r7.cell 0).trans (show _=some (Value.func (.func 142) #[] #[.pointer (some ⟨b5,0,none⟩),.pointer (some ⟨b3,0,none⟩)]) from rfl);have hc:=c96 Fk a b3 b5 Dk wr x ms r5 r3 wM HA.out.syn HA.out.gone HR2.out (by omega) hby (by omega) (λy hy=>ay (N5.out y hy) (by decide)) (by omega);have HC:=ah hc;clear hc hby hin hHk yP KU wM r7 r1 r3 r5 rx rm rk ri rs rp;go_wp2_with (go_at_call 142;refine HC.out.mono ?_;rintro e w10 ⟨rfl,y,F3,hy,hD3,nD,hF3⟩)
     go_roundw
     case rel=>exact⟨F3,_,⟨hD3,EH.out.trans nD,λq hq=>hF3 q (ND.out q hq),Yg.out.step nD⟩,.inr (.inl ⟨rfl,y,hy,rfl⟩)⟩
     case measure=>simp[intOf]
    ·obtain⟨d3,d4,e,e1,e2,e3,hcm,hmv,hsf,BK,yM⟩:=NK.out y hy;have c0:=(r7.cell 1).trans (show _=some (Value.func (.func 143) #[] #[.pointer (some ⟨b5,0,none⟩)]) from rfl);have hc:=c97 Fk a b5 (D2.wrote H5 ms y) wr d3 r5 wM (by show(D2.moves++[[(H5,some y)]]).length<=1000000;simp;omega) e1
     have HC:=ah hc;have lQ:=ah e1;have HY:=ah hy;clear hc hby hin hHk yP KU wM r7 r1 r3 r5 rx rm rk ri rs rp e1 e2 e3 hcm hmv hsf BK yM hy;go_wp2_with (go_at_call 143;refine HC.out.mono ?_;rintro e w10 ⟨rfl,F3,hD3,nD,hF3⟩)
     go_roundw
     case rel=>exact⟨F3,_,⟨hD3,EH.out.trans nD,λq hq=>hF3 q (ND.out q hq),Yg.out.step nD⟩,.inr (.inr (.inl ⟨rfl,y,HY.out,lQ.out⟩))⟩
     case measure=>simp[intOf]
    ·obtain⟨d3,d4,e,e1,e2,e3,hcm,hmv,hsf,BK,yM⟩:=NK.out y hy;obtain rfl:Dk=d3:=by rw[e1] at hr;injection hr with _ hr;exact hr.symm
     have c0:=(r7.cell 2).trans (show _=some (Value.func (.func 53) #[.pointer (some ⟨a,0,none⟩)] #[]) from rfl);have hc:=EB Fk a Dk wr wM (by omega) λl hl=>by
      rcases hmv.2 l hl with h|h|h
      ·rcases HA.out.og l h with h|h
       ·exact⟨(HMS.out l h).1,λm hm=>ay ((HMS.out l h).2 m hm) (by decide)⟩
       ·subst h;exact⟨by simp,λm hm=>by rw[dB.1 hm];decide⟩
      ·subst h;exact⟨by simp,λm hm=>by rw[dB.1 hm];show H5.length<=maxLen;decide⟩
      ·subst h;refine⟨by simp,λm hm=>?_⟩;rcases(by simpa using hm:m=(y8,some y)\/m=(H5,none)) with rfl|rfl
       ·show y8.length<=maxLen;decide
       ·decide
     rw[e2] at hc;have HC:=ah hc;have lQ:=ah e1;have HE2:=ah e2;have HY:=ah hy;clear hc hby hin hHk yP KU wM r7 r1 r3 r5 rx rm rk ri rs rp e1 e2 e3 hcm hmv hsf BK yM hy hr;unfold l9 at HC;go_wp2_with (go_at_call 53;refine HC.out.mono ?_;rintro e w10 ⟨F3,v3,rfl,hv3,hD3,nD,hF3⟩;obtain rfl:v3=.nilIface:=hv3.get)
     go_roundw
     case rel=>exact⟨F3,_,⟨hD3,EH.out.trans nD,λq hq=>hF3 q (ND.out q hq),Yg.out.step nD⟩,.inr (.inr (.inr (.inl ⟨rfl,y,Dk,HY.out,lQ.out,HE2.out⟩)))⟩
     case measure=>simp[intOf]
    ·obtain⟨d3',d4,e,e1,e2,e3,hcm,hmv,hsf,BK,yM⟩:=NK.out y hy;obtain rfl:d3=d3':=by rw[e1] at hr;injection hr with _ hr;exact hr.symm
     obtain rfl:Dk=d4:=by rw[e2] at hs3;injection hs3 with _ hs3;exact hs3.symm
     have c0:=(r7.cell 3).trans (show _=some (Value.func (.func 145) #[] #[.pointer (some ⟨b5,0,none⟩),.pointer (some ⟨b1,0,none⟩)]) from rfl);have IE:zk (W9 gU):=by have h:=Ly.out;unfold Q7 inRange at h;simp only[aI,bZ,aU] at h;exact⟨h.1,h.2.1⟩
     have hc:=c98 Fk a b5 b1 mb Dk wr (W9 gU) _ _ _ _ _ e r5 r1 rm wM hsf.calm hsf.nodup hin IE rp (by omega) (by rw[hsf.moves];simp) (by rw[hsf.moves];simp) (λp hp=>by
      rcases yM p hp with h|h|h
      ·exact nR.out p (HA.out.names p h)
      ·rw[h];decide
      ·rw[h];decide) e3
     have HC:=ah hc;have HCM:=ah hcm;clear hc hby hin hHk yP KU wM r7 r1 r3 r5 rx rm rk ri rs rp e1 e2 e3 hcm hmv hsf BK yM hy hr hs3 IE;go_wp2_with (go_at_call 145;refine HC.out.mono ?_;rintro e w10 ⟨rfl,F3,hD3,nD,hF3⟩)
     go_roundw
     case rel=>exact⟨F3,_,⟨hD3,EH.out.trans nD,λq hq=>hF3 q (ND.out q hq),Yg.out.step nD⟩,.inr (.inr (.inr (.inr ⟨rfl,HCM.out⟩)))⟩
     case measure=>simp[intOf]
    ·have hfin:dT F a gen D gU w (.returned .nilIface) wr:=⟨rfl,Fk,Dk,wM,by rw[HGN.out,LN.out];exact hend,yP,KU⟩;have qo:=ah hfin;clear hfin hend hby hin hHk yP KU wM r7 r1 r3 r5 rx rm rk ri rs rp Yg EH ND;go_wp2_with fail
     go_ret;exact qo.out
noncomputable def meC(n:Nat):Code:=Code.behind n (f38.body.getD .skip)
def I3(D:Dk.D)(c:Nat)(a:fC)(bss:fJ)(b:List Nat)(e:Dk.D):Prop:=
 ∃d,Qa D a bss b/\D.Wr (b.zip (lX bss a.length)) d/\d.Com (summed (U8 ((c+1)%18446744073709551616) (W9 b))) (W9 b) e
def MQ(F:tyP)(a:Nat)(D:Dk.D)(c:Nat)(d:fC)(bss:fJ)(w:aB):Exit->Act->World->Prop
 | .ret,g,f=>g.defers=[]/\g.tmps[4]?=some .nilIface/\∃h e b,I3 D c d bss h e/\o7 f b a e/\iq F b w f/\∀q,F q->b q
 | _,_,_=>False
theorem c2I{F:tyP}{a sb f c:Nat}{D:Dk.D}{w:aB}{T:dU}{v:aX}{d:fC}{bss:fJ}(hT:T.size=33)(h1:T[1]?=some v)(h5:T[5]?=some (l9 sb))(h6:T[6]?=some .nilIface)
 (B:Ints w v d)(g:Held w F (λW=>Df W sb a f d bss))(s:o7 w F a D)(l:Ready D c f d bss)(M:c<=1000)(hP:Held w F S9)(h0:d≠[]):
 (meC 2).wp prog (MQ F a D f d bss w) ⟨T,[]⟩ w:=by
 obtain⟨x,e,r⟩:=IZ 33 T hT;refine(congrArg (λT'=>Code.wp _ _ _ ⟨T',[]⟩ _) (O8 (k:=6) (O8 (k:=5) (O8 (k:=1) e (r 1 _ h1)) (r 5 _ h5)) (r 6 _ h6))).mpr ?_;obtain⟨hbl,G,o,Q⟩:=l.small s.wf;have X:=o.1;obtain⟨va,vc,rfl,DZ,sN,-⟩:=id B.open;have A:=l.len;have k:=ah (c2u sb a f F D _ d bss w g.get s B G h0 X (λi=>ay (Q i) dA) l.safe.nodup aj l.names);have L:=ah (λE S Y m N hE P b=>b4W w F D a sb S Y m N f c d bss E hE s.low P b g s l M hP h0 X (λx r=>(o.2 x r).1) Q);have XO:=ah s.wf;clear e r hT h1 h5 h6 B s G o A;unfold l9 at k;unfold meC l9;simp only[Code.behind,f38,aG,AN,List.range,List.range.loop,bD,dS,up,reduceIte,Nat.reduceEqDiff];go_wp2_with fail
 refine k.out.mono ?_;rintro e E ⟨S,Y,m,N,rfl,P,l1,K,l3,l4,t⟩;have n:=ah (L.out E S Y m N t P ⟨l1,K,l3,l4⟩);clear P l1 K l3 l4 t L k;unfold l9 at n;unfold l9;go_wp2_with fail
 refine n.out.mono ?_;rintro e w2 ⟨rfl,f2,u,R,ms,F2,D2,uZ,O,y,I,j,J⟩;have V:=ZR bss d.length;have U:=O.len;obtain⟨q1,q2,q3,q4,q5,q6⟩:=l.wr XO.out M y (λp hp=>B6 Q _ (nN hp).2) (by rw[List.length_zip];omega);have C:=ah (b6n F2 D2 a sb S N f d bss D.list u _ _ R w2 (Held.mono (Held.and uZ (Held.and (g.step j) (hP.step j))) λW h=>⟨h.1.box,h.1.tk,h.1.own.ints,h.2.1,h.2.2⟩) I q1 (O.ok X) q6 q2 q3 (y.og l.safe.moves) q4 q5 (y.names l.names));clear uZ I q1 q2 q3 q4 q5 q6 V U n;unfold l9 at C;go_wp2_with fail
 refine C.out.mono ?_;rintro e w3 ⟨rfl,F3,D3,H,nD,hC,z⟩;have qo:=ah (⟨R,D3,F3,⟨D2,O,y,nD⟩,H,j.trans hC,λq hq=>z q (J q hq)⟩:∃R e Z,I3 D f d bss R e/\o7 w3 Z a e/\iq F Z w w3/\∀q,F q->Z q);clear H nD hC z;go_wp2_with fail
 trivial
section
open Zn (tp Full kH VP Zf Le)
noncomputable def tl0:Array Oper:=Code.ops (Code.head (zS 0))
noncomputable def tl1:Array Oper:=Code.ops (Code.head (zS 1))
def d0l:zS 0=.seq (.region 0 tl0 false) (zS 1):=rfl
def d0m:zS 1=.seq (.region 1 tl1 false) (zS 2):=rfl
def np:Zn.nU zb (zS 2)=true:=rfl
section
variable[Go.ConcR.Payload][To.Lo]{Sh F:Nat->Prop}{w:World}{a:Nat}{D:Dk.D}
structure VK(F Sh:Nat->Prop)(a:Nat)(D:Dk.D)(w:World)(v:Value)(w':World)(Sh':Nat->Prop):Prop where
 v:v=.bool true
 W:kH zone Sh' w'
 old:∀b,b<w.heap.size->Sh' b->Sh b
 jU:gI F w w'
 disk:o7 w' F a D
theorem b72(W:kH zone Sh w)(t:prog.globals.size<=w)(hv:VP (Zf zone Sh w) (l9 a))(f:o7 w F a D)(E:D.Calm)(c:D.Fit)(hL:Held w F Laid)(P:Held w F S9):
 Jb prog 28 #[l9 a] w Sh (VK F Sh a D w):=by
 refine⟨f28,zS 0,func28,aW,aW,?_⟩;rw[show f28.ntmps=54 by kernel_rfl];have hI:Iv zone Sh Full ⟨#[l9 a]++Array.replicate (54 - 1) undef,[]⟩ w:=uL W λv i=>by simp_all
 have Y:(#[l9 a]++Array.replicate (54 - 1) undef).size=54:=aZ
 have g:(#[l9 a]++Array.replicate (54 - 1) undef)[0]?=some (l9 a):=by rw[f_ aZ];rfl
 have b:=C5 E;rw[d0l];refine Q5<|QC ?_;refine uK (d:=2) (op:=.assign (.const<|.bool false)) (.of<|aW) tN Y dA (MR rfl) λT1 X T R=>Qg ?_;have o:=(R 0<|dA).trans g;show mX _ _ _ _ _ _ _;rw[d0m];refine Q5<|P' 54 0 12 13 11 14 15 3 4 rfl dA (hI.keep λk _=>by
  by_cases e:k=2
  subst e;exact .inr ⟨_,T,.bool _⟩
  exact .inl<|R k e) X o hv t f c.data P ?_;intro x y B L T2 d Q M O k2 s;have m:=by have:=d.disk;rw[b.1] at this;exact this
 have z:=hL.jU d.jU f.low;have n:=(k2 0<|dA).trans o;have u:∀e r j τ p l K,TQ F a D (tp B τ p) e r (tp j l K)->(e=.normal\/e=.ret)/\(Iv zone L Full r j->B.heap.size<=j->bodyT prog f28 (VK F Sh a D w) e r j L):=by
  intro e r j τ p l K q;cases e<;>first|exact q.elim|skip
  let⟨q1,V,q3,U⟩:=q;exact⟨.inr rfl,λKT _=>⟨q1,_,resultsC_tmp rfl r.tmps,I7 V,KT.W,d.old,d.jU.trans (.of q3),U.oV⟩⟩
 obtain⟨H,S,y',e,hE⟩|⟨sb,I,G,Z,H,S,pR,e,C⟩:=d.res
 have i:x=.pointer none/\y=y':=by injection e with e;simp_all
 obtain⟨rfl,rfl⟩:=i;exact piece _ s (Zn.nU.sound np) (Zn.fV _) (λτ p=>c8J Q n M O m.eU E c z.eU.get hE.eU.get b.2.2.1 (b.2.2.2.2.1 H) λh=>b.2.2.2.1 h) u
 have i:x=.pointer (some sb)/\y=.nilIface:=by simp_all
 obtain⟨rfl,rfl⟩:=i;exact piece _ s (Zn.nU.sound np) (Zn.fV _) (λτ p=>c9S Q n M O m.eU E c z.eU (P.jU d.jU f.low).eU C.eU pR (by have J:=b.2.1;have N:=b.2.2.1;rw[H] at J;rw[S] at N;exact Prod.ext J.symm (Prod.ext N.symm (b4D _ fU)))) u
end
end
section
open Zn (tp Full kH VP Zf Le)
noncomputable def me0:Array Oper:=Code.ops (Code.head (meC 0))
noncomputable def me1:Array Oper:=Code.ops (Code.head (meC 1))
def c99:meC 0=.seq (.region 0 me0 false) (meC 1):=rfl
def d0a:meC 1=.seq (.region 1 me1 false) (meC 2):=rfl
def c57:Zn.nU zb (meC 2)=true:=rfl
section
variable[Go.ConcR.Payload][To.Lo]{Sh F:Nat->Prop}{w:World}{a gen c:Nat}{D:Dk.D}{ids:List Int}{bss:List (List UInt8)}{v:Value}
structure Grew(F:Nat->Prop)(w:World)(F':Nat->Prop)(w':World):Prop where
 jU:gI F w w'
 up:∀q,F q->F' q
 grow:∀q,F' q->F q\/w.heap.size<=q
theorem Grew.held{F':tyP}{w':aB}{Φ:World->Prop}(h:Grew F w F' w')(k:Held w F Φ)(i:∀b,F b->b<w.heap.size):Held w' F' Φ:=by
 let⟨S,c,g⟩:=k;refine⟨S,λb a=>⟨aF (c b a).1 h.jU.size,λd=>?_⟩,λf e=>g f λb a=>(e b a).trans<|h.jU.block b (c b a).1 (c b a).2⟩;have:=(c b a).1;obtain d|d:=h.grow b d
 exact(c b a).2 d
 omega
def Grew.trans{F' d:tyP}{w' a:aB}(h:Grew F w F' w')(k:Grew F' w' d a):Grew F w d a:=
 ⟨⟨k.jU.os.trans h.jU.os,k.jU.output.trans h.jU.output,ay h.jU.size k.jU.size,λb f e=>(k.jU.block b (aF f h.jU.size) λg=>(h.grow b g).elim e<|aj).trans<|h.jU.block b f e⟩,λq c=>k.up q<|h.up q c,λq c=>(k.grow q c).elim (h.grow q) λi=>.inr<|ay h.jU.size i⟩
def Grew.nZ{w':aB}(h:gI F w w'):Grew F w F w':=⟨h,λ_ h=>h,λ_ h=>.inl h⟩
def Grew.of{F':tyP}{w':aB}{τ a:Nat->Question->Nat}{p':Nat}(h:iq F F' (tp w τ p) (tp w' a p'))(b:∀q,F q->F' q):Grew F w F' w':=⟨.of h,b,h.grow⟩
structure qe(F Sh:Nat->Prop)(a:Nat)(D:Dk.D)(gen:Nat)(ids:List Int)(bss:List (List UInt8))(w:World)(v:Value)(w':World)(Sh':Nat->Prop):Prop where
 v:v=.nilIface
 W:kH zone Sh' w'
 old:∀b,b<w.heap.size->Sh' b->Sh b
 disk:∃gU e F',I3 D gen ids bss gU e/\o7 w' F' a e/\Grew F w F' w'
theorem b6z(W:kH zone Sh w)(s:prog.globals.size<=w)(H:VP (Zf zone Sh w) (l9 a))(G:VP (Zf zone Sh w) v)(hi:Held w F (λW=>Ints W v ids))(t:o7 w F a D)(j:Ready D c gen ids bss)(Y:c<=1000)(K:Held w F S9)(E:ids≠[]):
 Jb prog 38 #[l9 a,v] w Sh (qe F Sh a D gen ids bss w):=by
 refine⟨f38,meC 0,func38,aW,aW,?_⟩;rw[show f38.ntmps=33 by kernel_rfl];have J:Iv zone Sh Full ⟨#[l9 a,v]++Array.replicate (33 - 2) undef,[]⟩ w:=uL W λu f=>by
  obtain rfl|rfl:=(by simpa using f)
  exact H
  exact G
 have I:(#[l9 a,v]++Array.replicate (33 - 2) undef).size=33:=aZ
 have i:=C5 j.safe.calm;rw[c99];refine Q5<|QC ?_;refine uK (d:=4) (op:=.assign<|.const .nilIface) (.of<|aW) tN I dA (MR rfl) λM S Q C=>Qg ?_;show mX _ _ _ _ _ _ _;rw[d0a];refine Q5 (P' 33 0 10 11 9 12 13 5 6 rfl dA (J.keep λk _=>by
  by_cases e:k=4
  subst e;exact .inr ⟨_,Q,.nilIface⟩
  exact .inl<|C k e) S ((C 0<|dA).trans fU) H s t (λx f=>ay (j.bound x f)<|dA) K ?_);intro x y w1 Sh1 T2 d l h R Z B;have r:=by have:=d.disk;rw[i.1] at this;exact this
 have L:D.iK.1=some (gen,ids,bss):=by rw[i.2.1,j.op]
 obtain⟨b,-⟩|⟨sb,Ce,BA,rL,b,o2,pR,e,n⟩:=d.res
 rw[L] at b;cases b
 rw[L] at b;injection b with b;injection b with V b;injection b with T A;subst V;subst T;subst A;have f:x=.pointer (some sb)/\y=.nilIface:=by simp_all
 obtain⟨rfl,rfl⟩:=f;apply piece _ B (Zn.nU.sound c57) (Zn.fV _) (λτ p=>c2I l ((Z 1<|dA).trans ((C 1<|dA).trans (by rw[f_ aZ];rfl))) h R (hi.jU d.jU t.low).eU.get n.eU r.eU j Y (K.jU d.jU t.low).eU E);intro e X w' τ p O p' q;cases e<;>first|exact q.elim|skip
 let⟨o,N,gU,z,F',P,q4,m,g⟩:=q;exact⟨.inr rfl,λU _=>⟨o,_,resultsC_tmp rfl _,I7 N,U.W,d.old,gU,z,F',P,q4.oV,(Grew.nZ d.jU).trans<|.of m g⟩⟩
end
end
def CV(bss:fJ)(k:Nat):Nat:=(V7 (bss.take k)).length
theorem Bn{bss:fJ}(a:k<bss.length):bss.take (k+1)=bss.take k++[bss.getD k []]:=by simp_all
theorem A9{bss:fJ}(a:k<bss.length):CV bss (k+1)=CV bss k+(D7 (bss.getD k [])).length:=by unfold CV V7;rw[Bn a];simp
theorem c5Z{bss:fJ}{p:Nat×Rec}(c:k<bss.length)(b:(D7 (bss.getD k []))[m]?=some p):(V7 bss)[CV bss k+m]?=some p.2:=by
 have e:V7 bss=V7 (bss.take<|k+1)++V7 (bss.drop<|k+1):=by unfold V7;rw[<-dZ,iy]
 have d:=(aJ.1 b).1;rw[e,bP (by have:=A9 c;unfold CV at *;omega)];unfold CV V7;rw[Bn c,dZ,cZ<|aj,Nat.add_sub_cancel_left,eY,List.flatMap_nil,dX,dF,b];rfl
theorem B8{bss:fJ}(a:k<bss.length):total (bss.take (k+1))=total (bss.take k)+(bss.getD k []).length:=by unfold total;rw[Bn a];simp
theorem c2z{bss:fJ}{c:Nat}(h:∀i,(bss.getD i []).length<=c):∀k,k<=bss.length->total (bss.take k)<=k*c:=by
 intro k
 induction k with
 | zero=>simp[total]
 | succ k=>intro b;have d:=h k;rw[B8 kT,jw];omega
theorem c50{bss:fJ}{c:Nat}(h:∀i,(bss.getD i []).length<=c):∀k,k<=bss.length->CV bss k<=k*c:=by
 intro k
 induction k with
 | zero=>simp[CV,V7]
 | succ k=>intro b;have d:=h k;have e:=Xp<|bss.getD k [];rw[A9 kT,jw];omega
theorem b6t{bss:fJ}:total (bss.take k)<=total bss:=by
 have e:total bss=total (bss.take k)+total (bss.drop k):=by unfold total;rw[<-qY,<-aY,iy]
 omega
theorem Je.whole{bss:fJ}(h:Je bss)(d:b∈bss):sizes (D7 b)=b.length:=by have a:=Be (D7 b) λp c=>ZA<|Y3 c;rw[h.canon b d] at a;omega
theorem Je.fresh{bss:fJ}(h:Je bss){r:Rec}(a:(V7 bss)[i]?=some r):r.del=false/\((V7 bss).take (i+1)).map (·.key)=((V7 bss).take i).map (·.key)++[r.key]/\∀(j:Nat)(k:Nm),(((V7 bss).take i).map (·.key))[j]?=some k->k≠r.key:=by
 refine⟨h.live r<|aH a,by rw[cO,a,aY];rfl,λj k d e=>?_⟩;have c:=by have:=(aJ.1 d).1;rw[bV,dH] at this;omega
 have l:((V7 bss).map (·.key))[i]?=some r.key:=fU
 have b:((V7 bss).map (·.key))[j]?=some r.key:=fU
 have:=(zG fU h.keys).1<|b.trans l.symm;omega
end Go.Proofs.YtgpbhjjajpbeeaaGreatDoor
