/- A part of what the last file proves. -/
import Derived.Test.YtgpbhjjajpbeeaaGreatDoorK19
import Derived.Laws.StructEq
set_option linter.all false
set_option maxRecDepth 100000
set_option maxHeartbeats 6400000
namespace Go.Proofs.YtgpbhjjajpbeeaaGreatDoor
section
open Go.RowKit Go.Lib Pl
def b7B(r:Option (Nat×List Int))(w:World)(e:Ending)(w':World):Prop:=
 ∃g v b,e=.returned (.tuple #[.int .u64 g,v,.bool b])/\Ext w w'/\
  ((r=none/\g=0/\v=.slice none 0 0/\b=false)\/(∃gen ids,r=some (gen,ids)/\g=(gen:Int)/\b=true/\OwnI w' w.heap.size v ids))
theorem a8F(v:Value)(l:List UInt8)(w:World)(h:Bytes w v l):
 Calls Tryz.prog 32 #[v] w (b7B (readMan l) w):=by
 obtain⟨i0,hi,hz0,hz1,hz2⟩:=info_parts a3q;obtain⟨a,cap,rfl,h1,h2,h3⟩:=id h;clear h3;by_cases c0:l.length<14
 ·have hd:readMan l=none:=P6 (a1U (by omega));clear h;go_enter Tryz.func32,Tryz.ntmps32
  go_wp2;go_ret3
  exact⟨0,_,_,rfl,Ext.refl w,Or.inl ⟨hd,rfl,rfl,rfl⟩⟩
 obtain⟨ad,rfl⟩:∃ad,a=some ad:=by
  cases a with
  | none=>have:=h2.2 rfl;omega
  | some ad=>exact⟨ad,rfl⟩
 have HB:=Lib.hid h;clear h;have h14:14<=l.length:=by omega
 have hcn:=cnt_lt l;have hwn:IntKind.i64.wrap (cnt l:Int)=(cnt l:Int):=IntWalk.i64_in _ (by omega);have hsl:∀W:World,Ext w W->∀i j,0<i->i<=j->j<=l.length->i<cap->Bytes W (.slice (some ⟨ad.block,ad.off+i,none⟩) (j - i) (cap - i)) ((l.take j).drop i):=by
  intro W hW i j h0 hij hj hc;have:=(HB.out.ext hW).sliced i j hij hj;rw[if_neg (by omega)] at this;have e:(some ad).map (·.add i)=some ⟨ad.block,ad.off+i,none⟩:=by
   show some (ad.add i)=_;unfold Addr.add;rw[if_neg (by omega)]
  rw[e] at this;exact this
 have HS:=Lib.hid hsl;clear hsl;have e12:num ((l.take 14).drop 12)=cnt l:=by unfold cnt;rw[List.drop_take]
 have hcap:14<=cap:=by omega
 have c1:=M8 _ ((l.take 14).drop 12) w (HS.out _ (Ext.refl w) 12 14 (by omega) (by omega) (by omega) (by omega)) (by simp;omega);rw[e12] at c1;have HC1:=Lib.hid c1;clear c1 e12;go_enter Tryz.func32,Tryz.ntmps32
 go_wp2_with fail
 refine HC1.out.mono ?_;rintro e W ⟨rfl,hw⟩;subst hw;have c2:=a1F _ (l.drop 4) w (by
  have:=HS.out _ (Ext.refl w) 4 l.length (by omega) (by omega) (Nat.le_refl _) (by omega);rw[List.take_length] at this;exact this)
 have HC2:=Lib.hid c2;clear c2;have hw4:IntKind.i64.wrap (4*(cnt l:Int))=4*(cnt l:Int):=IntWalk.i64_in _ (by omega);have hw14:IntKind.i64.wrap (14+4*(cnt l:Int))=14+4*(cnt l:Int):=IntWalk.i64_in _ (by omega);go_wp2_with fail
 refine HC2.out.mono ?_;rintro e W ⟨rfl,hw⟩;subst hw;by_cases c3:l.length=14+4*cnt l
 case neg=>
  have hd:readMan l=none:=P6 (a1U (by omega));have hne:((l.length:Int) != 14+4*(cnt l:Int))=true:=by rw[bne,beq_eq_false_iff_ne.2 (by omega)];rfl
  go_wp2;go_ret3
  exact⟨0,_,_,rfl,Ext.refl w,Or.inl ⟨hd,rfl,rfl,rfl⟩⟩
 have heq:((l.length:Int) != 14+4*(cnt l:Int))=false:=by rw[bne,beq_iff_eq.2 (by omega)];rfl
 have HL:=Lib.hid c3;clear c3;have c4:=M8 _ (l.take 4) w (by
  have:=(HB.out).sliced 0 4 (by omega) (by omega);rw[if_neg (by omega)] at this;exact this) (by simp;omega)
 have HC4:=Lib.hid c4;clear c4;have hm1:num (l.take 4)<4294967296:=I9 l 4;go_wp2_with fail
 refine HC4.out.mono ?_;rintro e W ⟨rfl,hw⟩;subst hw;have hwc:IntKind.u64.wrap (crc (l.drop 4):Int)=(crc (l.drop 4):Int):=by
  have:=a3B (l.drop 4);rw[IntKind.wrap_u64];omega
 by_cases hcr:crc (l.drop 4)=num (l.take 4)
 case neg=>
  have hcr':((num (l.take 4):Int) != (crc (l.drop 4):Int))=true:=by rw[bne,beq_eq_false_iff_ne.2 (by omega)];rfl
  have hd:readMan l=none:=P6 (a6M hcr);go_wp2;go_ret3
  exact⟨0,_,_,rfl,Ext.refl w,Or.inl ⟨hd,rfl,rfl,rfl⟩⟩
 have hcr':((num (l.take 4):Int) != (crc (l.drop 4):Int))=false:=by rw[bne,beq_iff_eq.2 (by omega)];rfl
 have HCR:=Lib.hid hcr;clear hcr;go_wp2;go_loopw [7,8] (fun u i wr=>∃k:Nat,k<=cnt l/\i=.int .i64 k/\OwnI wr w.heap.size u (P5 l k)/\Ext w wr) (fun _ i _=>cnt l - (intOf i).toNat)
 case atStart=>exact⟨0,Nat.zero_le _,rfl,⟨rfl,Or.inl ⟨rfl,rfl⟩⟩,Ext.refl w⟩
 case round=>
  obtain⟨k,hk,rfl,hO,hE⟩:=hrel;by_cases hlt:k<cnt l
  ·have hl:=HL.out;have e4:num ((l.take (18+4*k)).drop (14+4*k))=a8B l k:=by unfold a8B;rw[List.drop_take];congr 2;omega
   have c5:=M8 (.slice (some (ad.add (14+4*k))) (18+4*k - (14+4*k)) (cap - (14+4*k))) ((l.take (18+4*k)).drop (14+4*k)) wr (by
    have:=(HB.out.ext hE).sliced (14+4*k) (18+4*k) (by omega) (by omega);rw[if_neg (by omega)] at this;exact this) (by simp;omega)
   rw[e4] at c5;have HC5:=Lib.hid c5;have HO:=Lib.hid hO;have HE:=Lib.hid hE;have hix:=b5D l k;have hwx:IntKind.i64.wrap (a8B l k:Int)=(a8B l k:Int):=IntWalk.i64_in _ (by omega);have hsn:(P5 l (k+1)).map (Value.int .i64)=(P5 l k).map (Value.int .i64)++[Value.int .i64 (a8B l k)]:=by rw[a8C,List.map_append];rfl
   have HSN:=Lib.hid hsn;have hk4:IntKind.i64.wrap (4*(k:Int))=4*(k:Int):=IntWalk.i64_in _ (by omega);have hk14:IntKind.i64.wrap (14+4*(k:Int))=14+4*(k:Int):=IntWalk.i64_in _ (by omega);have hk18:IntKind.i64.wrap (18+4*(k:Int))=18+4*(k:Int):=IntWalk.i64_in _ (by omega);have hlc:18+4*k<=cap:=by omega
   have hcl:cnt l<65536:=hcn;clear c5 hO hE e4 hsn hl heq hcr';have hsz:=HE.out.size;obtain⟨ua,uc,rfl⟩:=ownsRow_form HO.out;go_wp2_with fail
   refine HC5.out.mono ?_;rintro e W5 ⟨rfl,hw5⟩;subst hw5;go_wp2_with (at_builtin;go_must (refine p8 rfl _ _ 69 rfl w.heap.size 3 i0 (.int .i64 0) 1 8 Tryz.underlying69 hi hz0 hz1 hz2 rfl (by omega) (.slice ua (P5 l k).length uc) (P5 l k).length _ rfl (HO.out.alloc (.cells #[.int .i64 (a8B l k)] 3)) (.slice (some ⟨wr.heap.size,0,none⟩) 1 1) 1 [.int .i64 (a8B l k)] rfl ⟨_,_,rfl,by omega,⟨by omega,fun h=>by cases h⟩,fun _=>⟨_,rfl,World.news_of_block (cs:=#[.int .i64 (a8B l k)]) (t:=3) (fr:=(0,0)) (heap_alloc_new wr _)⟩⟩ rfl (by simp[Value.oneCell']) (by rw[a1g];unfold maxLen;omega) (by rw[a1g];omega) (by simp;omega) ?_);intro b6 c6 w6 hown6 hgrow6 hat6;clear hat6)
   have hO6:OwnI w6 w.heap.size (.slice b6 ((P5 l k).length+1) c6) (P5 l (k+1)):=by
    unfold OwnI;rw[HSN.out,show(P5 l (k+1)).length=(P5 l k).length+1 by rw[a1g,a1g]];exact hown6
   have hE6:Ext w w6:=Below.grown (HE.out.new _) hgrow6 (by simp;omega) (fun r hr=>(HO.out.lt r hr).1);go_roundw
   case rel=>exact⟨k+1,by omega,by go_num,hO6,hE6⟩
   case measure=>simp[intOf];omega
  ·obtain rfl:k=cnt l:=by omega
   have hwf:∀n∈P5 l (cnt l),(Lit.int .i64 n).wf=true:=fun n hn=>b2N (b2M l _ n hn);have c7:=a5p u7 (P5 l (cnt l)) wr hO.ints;have HC7:=Lib.hid c7;have HO:=Lib.hid hO;have HE:=Lib.hid hE;clear c7 hO hE hwf;go_wp2_with fail
   refine HC7.out.mono ?_;rintro e W7 ⟨rfl,q,hq⟩;have hE7:Ext wr W7:=by rw[hq];exact Ext.drewN _ _
   clear hq;have hO7:OwnI W7 w.heap.size u7 (P5 l (cnt l)):=ownsRow_below HO.out hE7;have hX7:Ext w W7:=Ext.trans HE.out hE7;have HO7:=Lib.hid hO7;have HX7:=Lib.hid hX7
   cases hok:U1 (P5 l (cnt l)) with
   | false=>
    have hd:readMan l=none:=P6 (a6N hok);clear hE7 hO7 hX7;go_wp2;go_ret3
    exact⟨0,_,_,rfl,HX7.out,Or.inl ⟨hd,rfl,rfl,rfl⟩⟩
   | true=>
    have hd:readMan l=some (num ((l.drop 4).take 8),P5 l (cnt l)):=a5n h14 HL.out HCR.out hok;have c8:=M8 _ ((l.take 12).drop 4) W7 (HS.out _ hX7 4 12 (by omega) (by omega) (by omega) (by omega)) (by simp;omega);rw[show num ((l.take 12).drop 4)=num ((l.drop 4).take 8) by rw[List.drop_take]] at c8;have HC8:=Lib.hid c8;have HD:=Lib.hid hd;clear hE7 hO7 hX7 c8 hd;go_wp2_with fail
    refine HC8.out.mono ?_;rintro e W8 ⟨rfl,hw8⟩;subst hw8;go_wp2;go_ret3
    exact⟨_,_,_,rfl,HX7.out,Or.inr ⟨_,_,HD.out,rfl,rfl,HO7.out⟩⟩
end
section
open Go.RowKit Go.Lib Go.Maps Dk Pl
def a0r(x:Int):List Value:=[.int .i64 x,.slice none 0 0,.int .i64 0]
def c2w(w:World)(B b:Nat)(ids:List Int)(v:Value):Prop:=j6 w b 50 #[.int .u64 0,v]/\w.ownsRow B 54 3 v ids.length (ids.flatMap a0r)
theorem b8D(ids:List Int)(i:Nat)(x:Int)(h:ids[i]?=some x)(j:Nat)(hj:j<3):(ids.flatMap a0r)[3*i+j]?=(a0r x)[j]?:=by
 induction ids generalizing i with
 | nil=>simp at h
 | cons y l ih=>
  rw[List.flatMap_cons]
  cases i with
  | zero=>
   simp at h;subst h
   rw[List.getElem?_append_left (by simp[a0r];omega)];simp
  | succ i=>
   simp at h;rw[List.getElem?_append_right (by simp[a0r];omega),show 3*(i+1)+j - (a0r y).length=3*i+j by simp[a0r];omega];exact ih i h
theorem c2w.ids{w:World}{B b:Nat}{ids:List Int}{v:Value}(h:c2w w B b ids v)(hl:ids.length<=1000):c4J w b ids:=by
 obtain⟨h1,h2⟩:=h;have hm:maxLen<=9223372036854775807:=by unfold maxLen;omega
 rcases h2.2 with⟨rfl,h0⟩|⟨g,cap,cur,rfl,_,hb,h4,h5,h6,h7⟩
 ·refine⟨0,none,0,by rw[h0];exact h1,by omega,by omega,fun i x hx=>?_⟩;have:=(List.getElem?_eq_some_iff.1 hx).1;omega
 ·refine⟨0,some ⟨g,0,none⟩,cap,h1,by omega,by omega,fun i x hx=>⟨g,rfl,?_⟩⟩;have e:=b8D ids i x hx 0 (by omega);rw[<-h7,List.getElem?_take] at e;split at e
  ·simp only[World.cell?,hb];rw[show i*3=3*i+0 by omega];simpa [a0r] using e
  ·simp[a0r] at e
theorem b8E:(Tryz.prog.info? 54).map (fun i=>(i.zero,i.size,i.bytes))=some (some (.agg #[.int .i64 0,.slice none 0 0,.int .i64 0]),3,40):=by kernel_rfl
end
section
open Go.RowKit Go.Lib Go.Maps Dk Pl
theorem c1p(a b c d:Int)(w:World):(binOp .eql 158 (.agg #[.int .i64 a,.int .i64 b]) (.agg #[.int .i64 c,.int .i64 d])).run Tryz.prog w=.ok (.bool (a==c&&b==d)) w:=by
 have u3:=Tryz.underlying3;have key:(Op.equalIn 10000 158 (.agg #[.int .i64 a,.int .i64 b]) (.agg #[.int .i64 c,.int .i64 d])).run Tryz.prog w=.ok (a==c&&b==d) w:=by
  rw[show(10000:Nat)=9999+1 from rfl,run_equalIn_struct w 9999 158 _ _ (by kernel_rfl) (by kernel_rfl)];simp only[Program.fieldsOf,Tryz.underlying158];go_simp
  by_cases h1:a=c<;>by_cases h2:b=d<;>simp[h1,h2]
 simp[binOp,Op.equal,Op.maxDepth,key]
theorem b6r(w:World):(zeroValue 160).run Tryz.prog w=.ok (.agg #[.int .i64 0,.int .i64 0,.int .i64 0,.int .u64 0,.string ⟨#[]⟩,.string ⟨#[]⟩,.bool false]) w:=by kernel_rfl
theorem fieldPlace(a b c d:Int)(k v:ByteArray)(e:Bool)(w:World):(Instr.field 160 (.agg #[.int .i64 a,.int .i64 b,.int .i64 c,.int .u64 d,.string k,.string v,.bool e]) 0).run Tryz.prog w=.ok (.agg #[.int .i64 a,.int .i64 b]) w:=by kernel_rfl
def a6w(f g:Fd):Bool:=decide (f.1=g.1)&&decide (f.2.1=g.2.1)
theorem b6s(f g:Fd):((f.1:Int)==(g.1:Int)&&(f.2.1:Int)==(g.2.1:Int))=a6w f g:=by
 unfold a6w;congr 1
 ·by_cases h:f.1=g.1
  ·simp[h]
  ·have:¬(f.1:Int)=(g.1:Int):=by omega
   simp[h,this]
 ·by_cases h:f.2.1=g.2.1
  ·simp[h]
  ·have:¬(f.2.1:Int)=(g.2.1:Int):=by omega
   simp[h,this]
theorem b3D(sb r:Nat)(c0 c1 c2 c3 c5:Value)(l:List (Nm×Fd))(f g:Fd)(w:World)(hb:j6 w sb 138 #[c0,c1,c2,c3,.map (some r),c5])(hM:Y6 w r l)(hk:f.2.2.key.length<=maxLen)(hg:q9 l f.2.2.key=some g):
 Calls Tryz.prog 129 #[l7 sb,fdV f] w fun e w'=>e=.returned (.bool (a6w g f))/\Ext w w':=by
 obtain⟨w1,hw1⟩:∃w1,w.alloc (.cells #[.int .i64 f.1,.int .i64 f.2.1,.int .i64 f.2.2.size,.int .u64 f.2.2.seq,.string ⟨f.2.2.key.toArray⟩,.string ⟨f.2.2.val.toArray⟩,.bool f.2.2.del] 160)=w1:=⟨_,rfl⟩;have hE1:Ext w w1:=hw1▸(Ext.refl w).new _;have hx:j6 w1 w.heap.size 160 #[.int .i64 f.1,.int .i64 f.2.1,.int .i64 f.2.2.size,.int .u64 f.2.2.seq,.string ⟨f.2.2.key.toArray⟩,.string ⟨f.2.2.val.toArray⟩,.bool f.2.2.del]:=hw1▸j6.new _ _ rfl;have hlk:=((hM.ext hE1).ext (Below.drew (Ext.refl w1))).look a2f a2e Tryz.underlying136 (b6r w1.drew) (a5L hk);rw[hg] at hlk;have hlk1:(Instr.lookup 136 (.map (some r)) (.string ⟨f.2.2.key.toArray⟩) false).run Tryz.prog w1.drew=.ok (.agg #[.int .i64 g.1,.int .i64 g.2.1,.int .i64 g.2.2.size,.int .u64 g.2.2.seq,.string ⟨g.2.2.key.toArray⟩,.string ⟨g.2.2.val.toArray⟩,.bool g.2.2.del]) w1.drew:=hlk;have heq:=fun wx=>c1p g.1 g.2.1 f.1 f.2.1 wx;have hfd:=fieldPlace g.1 g.2.1 g.2.2.size g.2.2.seq ⟨g.2.2.key.toArray⟩ ⟨g.2.2.val.toArray⟩ g.2.2.del w1.drew;have hsp:=b6s g f;have d4:w1.drew.cell? ⟨sb,4,none⟩=some (.map (some r)):=((hE1.block sb hb.lt).trans hb |> fun h:j6 w1 sb _ _=>h.cell 4).trans rfl;have x0:w1.drew.cell? ⟨w.heap.size,0,none⟩=_:=(hx.cell 0).trans (show _=some (Value.int .i64 f.1) from rfl);have x1:w1.drew.cell? ⟨w.heap.size,1,none⟩=_:=(hx.cell 1).trans (show _=some (Value.int .i64 f.2.1) from rfl);have x2:w1.drew.cell? ⟨w.heap.size,2,none⟩=_:=(hx.cell 2).trans (show _=some (Value.int .i64 f.2.2.size) from rfl);have x4:w1.drew.cell? ⟨w.heap.size,4,none⟩=_:=(hx.cell 4).trans (show _=some (Value.string ⟨f.2.2.key.toArray⟩) from rfl);have HE:=Lib.hid hE1;have HS:=Lib.hid hsp;have HW:=Lib.hid hw1;clear hlk hM hb hx hE1 hsp hw1;unfold l7 fdV I4;go_enter Tryz.func129,Tryz.ntmps129
 go_wp2_with fail
 rw[HW.out];go_region
 all_goals
  go_wp2;go_ret;exact⟨by rw[HS.out];rfl,Below.drew HE.out⟩
theorem b6t(sb r:Nat)(c0 c1 c2 c3 c5:Value)(l:List (Nm×Fd))(f g:Fd)(w:World)(hb:j6 w sb 138 #[c0,c1,c2,c3,.map (some r),c5])(hM:Y6 w r l)(hk:f.2.2.key.length<=maxLen)(hg:q9 l f.2.2.key=some g):
 Calls Tryz.prog 72 #[l7 sb,fdV f] w fun e w'=>e=.returned (.bool (!f.2.2.del&&a6w g f))/\Ext w w':=by
 obtain⟨w1,hw1⟩:∃w1,w.alloc (.cells #[.int .i64 f.1,.int .i64 f.2.1,.int .i64 f.2.2.size,.int .u64 f.2.2.seq,.string ⟨f.2.2.key.toArray⟩,.string ⟨f.2.2.val.toArray⟩,.bool f.2.2.del] 160)=w1:=⟨_,rfl⟩;have hE1:Ext w w1:=hw1▸(Ext.refl w).new _;have hx:j6 w1 w.heap.size 160 #[.int .i64 f.1,.int .i64 f.2.1,.int .i64 f.2.2.size,.int .u64 f.2.2.seq,.string ⟨f.2.2.key.toArray⟩,.string ⟨f.2.2.val.toArray⟩,.bool f.2.2.del]:=hw1▸j6.new _ _ rfl;have hil:=b3D sb r c0 c1 c2 c3 c5 l f g w1 ((hE1.block sb hb.lt).trans hb) (hM.ext hE1) hk hg;have x0:=(hx.cell 0).trans (show _=some (Value.int .i64 f.1) from rfl);have x1:=(hx.cell 1).trans (show _=some (Value.int .i64 f.2.1) from rfl);have x2:=(hx.cell 2).trans (show _=some (Value.int .i64 f.2.2.size) from rfl);have x3:=(hx.cell 3).trans (show _=some (Value.int .u64 f.2.2.seq) from rfl);have x4:=(hx.cell 4).trans (show _=some (Value.string ⟨f.2.2.key.toArray⟩) from rfl);have x5:=(hx.cell 5).trans (show _=some (Value.string ⟨f.2.2.val.toArray⟩) from rfl);have x6:=(hx.cell 6).trans (show _=some (Value.bool f.2.2.del) from rfl);have HE:=Lib.hid hE1;have HW:=Lib.hid hw1;have HIL:=Lib.hid hil;clear hb hx hE1 hw1 hil hM;unfold l7 fdV I4 at *
 cases hdel:f.2.2.del with
 | true=>
  rw[hdel] at x6 HW;go_enter Tryz.func72,Tryz.ntmps72
  go_wp2_with fail
  go_ret
  exact⟨rfl,by rw[HW.out];exact HE.out⟩
 | false=>
  rw[hdel] at x6 HW HIL;go_enter Tryz.func72,Tryz.ntmps72
  go_wp2_with fail
  rw[HW.out];refine HIL.out.mono ?_;rintro e w2 ⟨rfl,hE2⟩;go_wp2;go_ret;exact⟨rfl,HE.out.trans hE2⟩
end
section
open Dk Pl
def y8(bss:List (List UInt8)):List (List (Nat×Rec)):=bss.map A9
theorem U0(bss:List (List UInt8))(i:Nat)(hi:i<bss.length):(y8 bss).getD i []=A9 (bss.getD i []):=by
 unfold y8;rw[List.getD_eq_getElem?_getD,List.getD_eq_getElem?_getD,List.getElem?_map,List.getElem?_eq_getElem hi];rfl
def b0Q(segs:List (List (Nat×Rec)))(i k:Nat)(key:Nm):Prop:=∃(j m:Nat)(q:Nat×Rec),(segs.getD j [])[m]?=some q/\(i<j\/(j=i/\k<m))/\q.2.key=key
def b8O(segs:List (List (Nat×Rec)))(i k:Nat):Prop:=∃p,(segs.getD i [])[k]?=some p/\p.2.del=false/\¬b0Q segs i k p.2.key
open Classical in
noncomputable def U7(segs:List (List (Nat×Rec)))(i k:Nat):Bool:=decide (b8O segs i k)
theorem a3l{segs:List (List (Nat×Rec))}{i k:Nat}{b:Bool}(h:b=true<->b8O segs i k):b=U7 segs i k:=by
 unfold U7;by_cases hl:b8O segs i k
 ·rw[h.2 hl];simp[hl]
 ·have:¬b=true:=fun e=>hl (h.1 e);simp[hl,this]
def b6e(bss:List (List UInt8))(n:Nat):List Fd:=(List.range n).flatMap fun i=>(A9 (bss.getD i [])).map fun p=>(i,p)
theorem a9R(bss:List (List UInt8))(n:Nat):b6e bss (n+1)=b6e bss n++(A9 (bss.getD n [])).map fun p=>(n,p):=by
 unfold b6e;rw[List.range_succ,List.flatMap_append];simp
theorem b3u(bss:List (List UInt8)):∀n,a0h bss n=(b6e bss n).foldl (fun m f=>a0w m f.2.2.key f) []:=by
 intro n
 induction n with
 | zero=>rfl
 | succ n ih=>
  rw[a9R,List.foldl_append,<-ih,List.foldl_map];rfl
def lastOf(key:Nm):List Fd->Option Fd
 | []=>none
 | f::l=>(lastOf key l).or (if f.2.2.key=key then some f else none)
theorem b6f(key:Nm):∀(l:List Fd)(m:List (Nm×Fd)),q9 (l.foldl (fun m f=>a0w m f.2.2.key f) m) key=(lastOf key l).or (q9 m key):=by
 intro l
 induction l with
 | nil=>intro m;simp[lastOf]
 | cons f l ih=>
  intro m;rw[List.foldl_cons,ih,a5J,lastOf];by_cases h:key=f.2.2.key
  ·subst h;cases lastOf f.2.2.key l<;>simp
  ·rw[if_neg h,if_neg (fun e=>h e.symm)];cases lastOf key l<;>simp
theorem a8Z(key:Nm):∀(a b:List Fd),lastOf key (a++b)=(lastOf key b).or (lastOf key a):=by
 intro a b
 induction a with
 | nil=>simp[lastOf]
 | cons f a ih=>
  rw[List.cons_append,lastOf,ih,lastOf];cases lastOf key b<;>simp
theorem b3v{key:Nm}:∀{l:List Fd}{f:Fd},lastOf key l=some f->f∈l/\f.2.2.key=key:=by
 intro l
 induction l with
 | nil=>intro f h;cases h
 | cons g l ih=>
  intro f h;rw[lastOf] at h
  cases e:lastOf key l with
  | some x=>
   rw[e] at h;simp at h;subst h
   exact⟨List.mem_cons_of_mem _ (ih e).1,(ih e).2⟩
  | none=>
   rw[e] at h;simp at h;obtain⟨h1,rfl⟩:=h;exact⟨List.mem_cons_self ..,h1⟩
theorem b2a{key:Nm}:∀{l:List Fd},lastOf key l=none->∀f∈l,f.2.2.key≠key:=by
 intro l
 induction l with
 | nil=>intro _ f h;cases h
 | cons g l ih=>
  intro h f hf;rw[lastOf] at h
  cases e:lastOf key l with
  | some x=>rw[e] at h;simp at h
  | none=>
   rw[e] at h;simp at h;rcases List.mem_cons.1 hf with rfl|hf
   ·exact h
   ·exact ih e f hf
theorem b0R:∀(n off:Nat)(l:List UInt8),∀p∈J3 n off l,off<=p.1:=by
 intro n
 induction n with
 | zero=>intro off l p h;cases h
 | succ n ih=>
  intro off l p hp;unfold J3 at hp
  cases hd:dec (l.drop off) with
  | none=>rw[hd] at hp;cases hp
  | some r=>
   rw[hd] at hp;rcases List.mem_cons.1 hp with rfl|hp
   ·exact Nat.le_refl _
   ·have:=ih _ _ p hp;omega
theorem a7f:∀(n off:Nat)(l:List UInt8),(J3 n off l).Pairwise fun p q=>p.1<q.1:=by
 intro n
 induction n with
 | zero=>intro off l;exact .nil
 | succ n ih=>
  intro off l;unfold J3
  cases hd:dec (l.drop off) with
  | none=>exact .nil
  | some r=>
   refine .cons (fun q hq=>?_) (ih _ _);have h1:=b0R _ _ _ q hq;have h2:=(a3p hd).1;show off<q.1;omega
theorem b6g{bss:List (List UInt8)}{n i k:Nat}{p:Nat×Rec}(hi:i<n)(hp:(A9 (bss.getD i []))[k]?=some p):∃A B,b6e bss n=A++(i,p)::B/\∀g,g∈B<->(g.1<n/\∃m,(A9 (bss.getD g.1 []))[m]?=some g.2/\(i<g.1\/(g.1=i/\k<m))):=by
 induction n with
 | zero=>omega
 | succ n ih=>
  rw[a9R];by_cases hin:i<n
  ·obtain⟨A,B,e,hB⟩:=ih hin;refine⟨A,B++(A9 (bss.getD n [])).map fun p=>(n,p),by rw[e];simp,fun g=>?_⟩;rw[List.mem_append,hB];constructor
   ·rintro(⟨h1,h2⟩|h)
    ·exact⟨by omega,h2⟩
    ·obtain⟨q,hq,rfl⟩:=List.mem_map.1 h;obtain⟨m,hm⟩:=List.mem_iff_getElem?.1 hq;exact⟨by show n<n+1;omega,m,hm,.inl hin⟩
   ·rintro⟨h1,m,h2,h3⟩;rcases Nat.lt_or_ge g.1 n with h|h
    ·exact .inl ⟨h,m,h2,h3⟩
    ·have e:g.1=n:=by omega
     refine .inr (List.mem_map.2 ⟨g.2,?_,?_⟩)
     ·rw[<-e];exact List.mem_of_getElem? h2
     ·rw[<-e]
  ·obtain rfl:i=n:=by omega
   obtain⟨hk,hkp⟩:=List.getElem?_eq_some_iff.1 hp;have e:A9 (bss.getD i [])=(A9 (bss.getD i [])).take k++p::(A9 (bss.getD i [])).drop (k+1):=by
    rw[<-hkp,<-List.drop_eq_getElem_cons hk,List.take_append_drop]
   refine⟨b6e bss i++((A9 (bss.getD i [])).take k).map fun p=>(i,p),((A9 (bss.getD i [])).drop (k+1)).map fun p=>(i,p),?_,fun g=>?_⟩
   ·conv=>lhs;rw[e]
    simp
   ·constructor
    ·intro h;obtain⟨q,hq,rfl⟩:=List.mem_map.1 h;obtain⟨m,hm⟩:=List.mem_iff_getElem?.1 hq;rw[List.getElem?_drop] at hm;exact⟨by show i<i+1;omega,k+1+m,hm,.inr ⟨rfl,by omega⟩⟩
    ·rintro⟨h1,m,h2,h3⟩;have e:g.1=i/\k<m:=by
      rcases h3 with h|h
      ·omega
      ·exact h
     refine List.mem_map.2 ⟨g.2,List.mem_iff_getElem?.2 ⟨m - (k+1),?_⟩,?_⟩
     ·rw[List.getElem?_drop,show k+1+(m - (k+1))=m by omega,<-e.1];exact h2
     ·rw[<-e.1]
theorem b3w{bss:List (List UInt8)}{i m k:Nat}{p q:Nat×Rec}(hp:(A9 (bss.getD i []))[k]?=some p)(hq:(A9 (bss.getD i []))[m]?=some q)(hkm:k<m):p.1<q.1:=by
 obtain⟨h1,rfl⟩:=List.getElem?_eq_some_iff.1 hp;obtain⟨h2,rfl⟩:=List.getElem?_eq_some_iff.1 hq;exact List.pairwise_iff_getElem.1 (a7f _ _ _) k m h1 h2 hkm
theorem last_at{bss:List (List UInt8)}{n i k:Nat}{p:Nat×Rec}(hn:n=bss.length)(hi:i<n)(hp:(A9 (bss.getD i []))[k]?=some p):
 ∃f,q9 (a0h bss n) p.2.key=some f/\((f.1=i/\f.2.1=p.1)<->¬b0Q (y8 bss) i k p.2.key):=by
 obtain⟨A,B,e,hB⟩:=b6g (bss:=bss) hi hp;have hl:q9 (a0h bss n) p.2.key=(lastOf p.2.key B).or (some (i,p)):=by
  rw[b3u,b6f,e,a8Z,lastOf];cases lastOf p.2.key B<;>simp
 have later:b0Q (y8 bss) i k p.2.key<->∃g∈B,g.2.2.key=p.2.key:=by
  constructor
  ·rintro⟨j,m,q,h1,h2,h3⟩;have hj:j<bss.length:=by
    rcases Nat.lt_or_ge j bss.length with h|h
    ·exact h
    ·have:(y8 bss).getD j []=[]:=by
      unfold y8;rw[List.getD_eq_getElem?_getD,List.getElem?_map,List.getElem?_eq_none h];rfl
     rw[this] at h1;simp at h1
   rw[U0 _ _ hj] at h1;exact⟨(j,q),(hB (j,q)).2 ⟨by show j<n;omega,m,h1,h2⟩,h3⟩
  ·rintro⟨g,hg,h⟩;obtain⟨h1,m,h2,h3⟩:=(hB g).1 hg;exact⟨g.1,m,g.2,by rw[U0 _ _ (by omega)];exact h2,h3,h⟩
 cases hB':lastOf p.2.key B with
 | none=>
  rw[hB'] at hl;refine⟨(i,p),by rw[hl];simp,fun _ hlat=>?_,fun _=>⟨rfl,rfl⟩⟩;obtain⟨g,hg,h⟩:=later.1 hlat
  exact b2a hB' g hg h
 | some f=>
  rw[hB'] at hl;obtain⟨h1,h2⟩:=b3v hB';refine⟨f,by rw[hl];simp,fun⟨e1,e2⟩=>?_,fun h=>absurd (later.2 ⟨f,h1,h2⟩) h⟩;obtain⟨_,m,h4,h5⟩:=(hB f).1 h1;exfalso;rcases h5 with h5|⟨-,h5⟩
  ·omega
  ·rw[e1] at h4;have:=b3w hp h4 h5;omega
structure St where
 id:Int
 recs:Nat
 bytes:Nat
 dead:Nat
 deadB:Nat
def St.add(t:St)(lv:Bool)(size:Nat):St:=if lv then{t with recs:=t.recs+1,bytes:=t.bytes+size} else{t with recs:=t.recs+1,bytes:=t.bytes+size,dead:=t.dead+1,deadB:=t.deadB+size}
def O8(id:Int)(l:List (Nat×Rec))(lv:Nat->Bool):Nat->St
 | 0=>⟨id,0,0,0,0⟩
 | k+1=>match l[k]? with
  | some p=>(O8 id l lv k).add (lv k) p.2.size
  | none=>O8 id l lv k
theorem a2A{id:Int}{l:List (Nat×Rec)}{lv:Nat->Bool}{k:Nat}{p:Nat×Rec}(h:l[k]?=some p):O8 id l lv (k+1)=(O8 id l lv k).add (lv k) p.2.size:=by
 show(match l[k]? with|some p=>(O8 id l lv k).add (lv k) p.2.size|none=>O8 id l lv k)=_;rw[h]
noncomputable def statOf(ids:List Int)(segs:List (List (Nat×Rec)))(i:Nat):St:=O8 (ids.getD i 0) (segs.getD i []) (U7 segs i) (segs.getD i []).length
noncomputable def U4(ids:List Int)(segs:List (List (Nat×Rec)))(n:Nat):List St:=(List.range n).map (statOf ids segs)
def sizes(l:List (Nat×Rec)):Nat:=(l.map fun p=>p.2.size).sum
structure St.Ok(t:St)(B:Nat):Prop where
 recs:t.recs<=t.bytes
 bytes:t.bytes<=B
 dead:t.dead<=t.recs
 deadB:t.deadB<=t.bytes
 some:0<t.recs->0<t.bytes
theorem a7P:∀(n off:Nat)(l:List UInt8),off<=l.length->off+sizes (J3 n off l)<=l.length:=by
 intro n
 induction n with
 | zero=>intro off l h;simpa [sizes,J3] using h
 | succ n ih=>
  intro off l h;unfold J3
  cases hd:dec (l.drop off) with
  | none=>simpa [sizes] using h
  | some r=>
   have h2:=(a3p hd).2;rw[List.length_drop] at h2;have:=ih (off+r.size) l (by omega);simp only[sizes,List.map_cons,List.sum_cons] at this⊢;omega
theorem b0S:∀(n off:Nat)(l:List UInt8),∀p∈J3 n off l,17<=p.2.size:=by
 intro n
 induction n with
 | zero=>intro off l p h;cases h
 | succ n ih=>
  intro off l p hp;unfold J3 at hp
  cases hd:dec (l.drop off) with
  | none=>rw[hd] at hp;cases hp
  | some r=>
   rw[hd] at hp;rcases List.mem_cons.1 hp with rfl|hp
   ·exact(a3p hd).1
   ·exact ih _ _ p hp
theorem a1N(l:List UInt8):sizes (A9 l)<=l.length:=by
 have:=a7P (l.length+1) 0 l (Nat.zero_le _);unfold A9;omega
theorem a3L(l:List UInt8):∀p∈A9 l,17<=p.2.size:=b0S _ _ _
theorem a4s{l:List (Nat×Rec)}{k:Nat}{p:Nat×Rec}(h:l[k]?=some p):sizes (l.take (k+1))=sizes (l.take k)+p.2.size:=by
 unfold sizes;rw[List.take_add_one,h];simp
theorem Y9(l:List (Nat×Rec))(k:Nat):sizes (l.take k)<=sizes l:=by
 have h:sizes (l.take k++l.drop k)=sizes (l.take k)+sizes (l.drop k):=by
  unfold sizes;rw[List.map_append,List.sum_append]
 rw[List.take_append_drop] at h;omega
theorem b6h{l:List (Nat×Rec)}(h:∀p∈l,17<=p.2.size):l.length<=sizes l:=by
 induction l with
 | nil=>simp
 | cons p l ih=>
  have h1:=ih fun q hq=>h q (List.mem_cons_of_mem _ hq);have h2:=h p (List.mem_cons_self ..);simp only[sizes,List.map_cons,List.sum_cons,List.length_cons] at h1⊢;omega
theorem a9S(l:List UInt8):(A9 l).length<=l.length:=Nat.le_trans (b6h (a3L l)) (a1N l)
theorem a4t(id:Int){l:List (Nat×Rec)}(lv:Nat->Bool)(hl:∀p∈l,17<=p.2.size):∀k,k<=l.length->(O8 id l lv k).Ok (sizes (l.take k))/\(O8 id l lv k).recs=k/\(O8 id l lv k).bytes=sizes (l.take k):=by
 intro k
 induction k with
 | zero=>exact fun _=>⟨⟨Nat.le_refl _,Nat.zero_le _,Nat.le_refl _,Nat.le_refl _,fun h=>h⟩,rfl,by simp[O8,sizes]⟩
 | succ k ih=>
  intro hk;obtain⟨⟨h1,h2,h3,h4,h5⟩,h6,h7⟩:=ih (by omega);have hp:l[k]?=some l[k]:=List.getElem?_eq_getElem (by omega);have hs:=hl l[k] (List.getElem_mem _);rw[a2A hp,a4s hp];unfold St.add;split
  ·exact⟨⟨by dsimp only;omega,by dsimp only;omega,by dsimp only;omega,by dsimp only;omega,by dsimp only;omega⟩,by dsimp only;omega,by dsimp only;omega⟩
  ·exact⟨⟨by dsimp only;omega,by dsimp only;omega,by dsimp only;omega,by dsimp only;omega,by dsimp only;omega⟩,by dsimp only;omega,by dsimp only;omega⟩
def b3x(percent count:Int)(t:St):Bool:=decide (t.recs≠0)&&(decide (percent<=((t.deadB*100/t.bytes:Nat):Int))||decide (count<=(t.dead:Int)))
def X3(percent count:Int)(l:List St):List Int:=(l.filter (b3x percent count)).map (·.id)
theorem a7Q(percent count:Int)(l:List St)(k:Nat)(t:St)(h:l[k]?=some t):X3 percent count (l.take (k+1))=X3 percent count (l.take k)++(if b3x percent count t then[t.id] else[]):=by
 unfold X3;rw[List.take_add_one,h,List.filter_append,List.map_append];congr 1
 by_cases hv:b3x percent count t
 ·simp[hv]
 ·simp[hv]
end
section
open Go.RowKit Go.Lib Go.Maps Dk Pl
def statCells(t:St):List Value:=[.int .i64 t.id,.int .i64 t.recs,.int .i64 t.bytes,.int .i64 t.dead,.int .i64 t.deadB]
theorem b6u:(Tryz.prog.info? 67).map (fun i=>(i.zero,i.size,i.bytes))=some (some (.agg #[.int .i64 0,.int .i64 0,.int .i64 0,.int .i64 0,.int .i64 0]),5,40):=by kernel_rfl
theorem a7Z{ids:List Int}{segs:List (List (Nat×Rec))}{n k:Nat}(hk:k<n):(U4 ids segs n).take (k+1)=(U4 ids segs n).take k++[statOf ids segs k]:=by
 have:(U4 ids segs n)[k]?=some (statOf ids segs k):=by
  unfold U4;rw[List.getElem?_map,List.getElem?_range hk];rfl
 rw[List.take_add_one,this];rfl
theorem a2h(ids:List Int)(segs:List (List (Nat×Rec)))(n:Nat):(U4 ids segs n).length=n:=by simp[U4]
theorem b83{bss:List (List UInt8)}{n i k:Nat}{p:Nat×Rec}(hn:n=bss.length)(hi:i<n)(hp:(A9 (bss.getD i []))[k]?=some p):∃g,q9 (a0h bss n) p.2.key=some g/\(!p.2.del&&a6w g (i,p))=U7 (y8 bss) i k:=by
 obtain⟨g,h1,h2⟩:=last_at hn hi hp;refine⟨g,h1,a3l ?_⟩;have hs:((y8 bss).getD i [])[k]?=some p:=by rw[U0 _ _ (by omega)];exact hp
 constructor
 ·intro h;simp only[Bool.and_eq_true,Bool.not_eq_true',a6w,decide_eq_true_eq] at h;exact⟨p,hs,h.1,h2.1 h.2⟩
 ·rintro⟨q,h3,h4,h5⟩;rw[hs] at h3;injection h3 with h3;subst h3;simp only[Bool.and_eq_true,Bool.not_eq_true',a6w,decide_eq_true_eq];exact⟨h4,h2.2 h5⟩
theorem a8a(sb r Cb n n':Nat)(c0 c1 c2 c5:Value)(ids:List Int)(bss:List (List UInt8))(w:World)(hb:j6 w sb 138 #[c0,c1,c2,.slice (some ⟨Cb,0,none⟩) n n',.map (some r),c5])
 (hn:n=bss.length/\n<=n'/\n<=1000000)(hS:a0J w Cb n ids bss)(hM:Y6 w r (a0h bss n))(hl:∀i,(bss.getD i []).length<=1099511627776):
 Calls Tryz.prog 23 #[l7 sb] w fun e w'=>∃u,e=.returned u/\w'.ownsRow w.heap.size 67 5 u n ((U4 ids (y8 bss) n).flatMap statCells)/\Ext w w':=by
 obtain⟨i0,hi,hz0,hz1,hz2⟩:=info_parts b6u;have d3:=(hb.cell 3).trans (show _=some (Value.slice (some ⟨Cb,0,none⟩) n n') from rfl);have HB:=Lib.hid hb;have HS:=Lib.hid hS;have HM:=Lib.hid hM;have HLL:=Lib.hid hl;have HN:=Lib.hid hn.1;obtain⟨-,hn1,hn2⟩:=hn;clear hb hS hM hl;unfold l7;go_enter Tryz.func23,Tryz.ntmps23
 go_wp2;go_loopw [3,14] (fun u i wr=>∃k:Nat,i=.int .i64 k/\k<=n/\wr.ownsRow w.heap.size 67 5 u k (((U4 ids (y8 bss) n).take k).flatMap statCells)/\Ext w wr) (fun _ i _=>n - (intOf i).toNat)
 case atStart=>exact⟨0,rfl,by omega,⟨rfl,Or.inl ⟨rfl,rfl⟩⟩,Ext.refl w⟩
 case round=>
  obtain⟨k,rfl,hk,hown,hE⟩:=hrel;obtain⟨ua0,uc0,rfl⟩:=ownsRow_form hown;by_cases hlt:k<n
  ·obtain⟨s1,u,s2,hrow⟩:=HS.out k hlt;obtain⟨ua,uc,rfl⟩:=hrow.slice;have s1':wr.cell? ⟨Cb,k*2,none⟩=some (.int .i64 (ids.getD k 0)):=by rw[Nat.mul_comm];exact hE.cell s1
   have s2':wr.cell? ⟨Cb,k*2+1,none⟩=some (.slice ua (A9 (bss.getD k [])).length uc):=by rw[Nat.mul_comm];exact hE.cell s2
   have hki:(k:Int)<(n:Int):=by omega
   have hlk:=HLL.out k;have hlen:=a9S (bss.getD k []);have hszs:=a1N (bss.getD k []);have hpos:=a3L (bss.getD k []);have hkey:∀p∈A9 (bss.getD k []),p.2.key.length<=16:=fun p hp=>a9Z _ p hp;have hlv:∀(m:Nat)p,(A9 (bss.getD k []))[m]?=some p->∃g,q9 (a0h bss n) p.2.key=some g/\(!p.2.del&&a6w g (k,p))=U7 (y8 bss) k m:=fun m p hp=>b83 HN.out hlt hp;have hso:statOf ids (y8 bss) k=O8 (ids.getD k 0) (A9 (bss.getD k [])) (U7 (y8 bss) k) (A9 (bss.getD k [])).length:=by
    unfold statOf;rw[U0 _ _ (by have:=HN.out;omega)]
   obtain⟨L,hL⟩:∃L,A9 (bss.getD k [])=L:=⟨_,rfl⟩;rw[hL] at hrow s2' hlen hszs hpos hkey hlv hso;have hLm:L.length<=1099511627776:=by omega
   have hLs:sizes L<=1099511627776:=by omega
   have HSO:=Lib.hid hso;have HLV:=Lib.hid hlv;have HKEY:=Lib.hid hkey;have HPOS:=Lib.hid hpos;have HR:=Lib.hid hrow;have HE:=Lib.hid hE;have HO:=Lib.hid hown;obtain⟨idk,hidk⟩:∃idk,ids.getD k 0=idk:=⟨_,rfl⟩;rw[hidk] at s1';have HID:=Lib.hid hidk;clear hso hlv hkey hpos hrow hE hown s1 s2 hL hszs hlk hlen hidk;have d3r:wr.cell? ⟨sb,3,none⟩=some (Value.slice (some ⟨Cb,0,none⟩) n n'):=HE.out.cell d3;go_wp2_with fail
   have hsz1:(wr.alloc (.cells #[.int .i64 idk,.slice ua L.length uc] 154)).heap.size=wr.heap.size+1:=by simp
   have hbx0:j6 ((wr.alloc (.cells #[.int .i64 idk,.slice ua L.length uc] 154)).alloc (.cells #[.int .i64 idk,.int .i64 0,.int .i64 0,.int .i64 0,.int .i64 0] 67)) (wr.heap.size+1) 67 #[.int .i64 idk,.int .i64 0,.int .i64 0,.int .i64 0,.int .i64 0]:=j6.new _ _ (by simp);have hE0:Ext wr ((wr.alloc (.cells #[.int .i64 idk,.slice ua L.length uc] 154)).alloc (.cells #[.int .i64 idk,.int .i64 0,.int .i64 0,.int .i64 0,.int .i64 0] 67)):=((Ext.refl wr).new _).new _;go_loopw [24] (fun j wi=>∃m:Nat,j=.int .i64 m/\m<=L.length/\j6 wi (wr.heap.size+1) 67 (statCells (O8 idk L (U7 (y8 bss) k) m)).toArray/\Ext wr wi) (fun j _=>L.length - (intOf j).toNat)
   case atStart=>exact⟨0,rfl,by omega,hbx0,hE0⟩
   case round=>
    clear hbx0 hE0 hsz1;rename World=>wi
    obtain⟨m,rfl,hm,hbx,hEi⟩:=hrel;obtain⟨T,hT⟩:∃T,O8 idk L (U7 (y8 bss) k) m=T:=⟨_,rfl⟩;obtain⟨⟨q1,q2,q3,q4,q5⟩,q6,q7⟩:=a4t idk (U7 (y8 bss) k) HPOS.out m hm;have q8:=Y9 L m;rw[hT] at hbx q1 q2 q3 q4 q5 q6 q7;by_cases hml:m<L.length
    ·obtain⟨g,cap,hu,hcap,hgl,hcells⟩:=a1L.rec (HR.out.keep fun g hg=>(HE.out.trans hEi).block g (HR.out.lt hg)) hml;injection hu with h1 h2 h3;subst h1;subst h3;have hmi:(m:Int)<(L.length:Int):=by omega
     have hp:L[m]?=some L[m]:=List.getElem?_eq_getElem hml;obtain⟨P,hP⟩:∃P,L[m]=P:=⟨_,rfl⟩;rw[hP] at hcells hp;have f0:=hcells 0 _ rfl;have f1:=hcells 1 _ rfl;have f2:=hcells 2 _ rfl;have f3:=hcells 3 _ rfl;have f4:=hcells 4 _ rfl;have f5:=hcells 5 _ rfl;have f6:=hcells 6 _ rfl;rw[Nat.add_zero] at f0;obtain⟨lg,hlg,hlv⟩:=HLV.out m P hp;have hkl:=HKEY.out P (List.mem_of_getElem? hp);have hst:=a2A (id:=idk) (lv:=U7 (y8 bss) k) hp;have hsp:=a4s hp;have hsq:=Y9 L (m+1);rw[hT] at hst;obtain⟨ti,tr,tb,td,te⟩:=T;dsimp only at q1 q2 q3 q4 q5 q6 q7;simp only[statCells] at hbx;have hsbE:=HE.out.trans hEi;have hbl:wr.heap.size+1<wi.heap.size:=hbx.lt;have hX2:j6 ((wi.setCell ⟨wr.heap.size+1,1,none⟩ (.int .i64 ((tr:Int)+1))).alloc (.cells #[.int .i64 k,.int .i64 P.1,.int .i64 P.2.size,.int .u64 P.2.seq,.string ⟨P.2.key.toArray⟩,.string ⟨P.2.val.toArray⟩,.bool P.2.del] 160)) wi.heap.size 160 #[.int .i64 k,.int .i64 P.1,.int .i64 P.2.size,.int .u64 P.2.seq,.string ⟨P.2.key.toArray⟩,.string ⟨P.2.val.toArray⟩,.bool P.2.del]:=j6.new _ _ (by simp[World.setCell]);have hX3:j6 (((wi.setCell ⟨wr.heap.size+1,1,none⟩ (.int .i64 ((tr:Int)+1))).setCell ⟨wr.heap.size+1,2,none⟩ (.int .i64 ((tb:Int)+(P.2.size:Int)))).alloc (.cells #[.int .i64 k,.int .i64 P.1,.int .i64 P.2.size,.int .u64 P.2.seq,.string ⟨P.2.key.toArray⟩,.string ⟨P.2.val.toArray⟩,.bool P.2.del] 160)) wi.heap.size 160 #[.int .i64 k,.int .i64 P.1,.int .i64 P.2.size,.int .u64 P.2.seq,.string ⟨P.2.key.toArray⟩,.string ⟨P.2.val.toArray⟩,.bool P.2.del]:=j6.new _ _ (by simp[World.setCell]);have hb1:=hbx.alloc (.cells #[.int .i64 k,.int .i64 P.1,.int .i64 P.2.size,.int .u64 P.2.seq,.string ⟨P.2.key.toArray⟩,.string ⟨P.2.val.toArray⟩,.bool P.2.del] 160);have hb2:=(hbx.set 1 (.int .i64 ((tr:Int)+1))).alloc (.cells #[.int .i64 k,.int .i64 P.1,.int .i64 P.2.size,.int .u64 P.2.seq,.string ⟨P.2.key.toArray⟩,.string ⟨P.2.val.toArray⟩,.bool P.2.del] 160);have hb3:=((hbx.set 1 (.int .i64 ((tr:Int)+1))).set 2 (.int .i64 ((tb:Int)+(P.2.size:Int)))).alloc (.cells #[.int .i64 k,.int .i64 P.1,.int .i64 P.2.size,.int .u64 P.2.seq,.string ⟨P.2.key.toArray⟩,.string ⟨P.2.val.toArray⟩,.bool P.2.del] 160);have hwz:wr.heap.size<=wr.heap.size+1:=Nat.le_succ _;have hwz2:w.heap.size<=wr.heap.size+1:=Nat.le_trans HE.out.size hwz;have hE3:Ext w (((wi.setCell ⟨wr.heap.size+1,1,none⟩ (.int .i64 ((tr:Int)+1))).setCell ⟨wr.heap.size+1,2,none⟩ (.int .i64 ((tb:Int)+(P.2.size:Int)))).alloc (.cells #[.int .i64 k,.int .i64 P.1,.int .i64 P.2.size,.int .u64 P.2.seq,.string ⟨P.2.key.toArray⟩,.string ⟨P.2.val.toArray⟩,.bool P.2.del] 160)):=((hsbE.setN (a:=⟨wr.heap.size+1,1,none⟩) hwz2).setN (a:=⟨wr.heap.size+1,2,none⟩) hwz2).new _;have hR3:Ext wr (((wi.setCell ⟨wr.heap.size+1,1,none⟩ (.int .i64 ((tr:Int)+1))).setCell ⟨wr.heap.size+1,2,none⟩ (.int .i64 ((tb:Int)+(P.2.size:Int)))).alloc (.cells #[.int .i64 k,.int .i64 P.1,.int .i64 P.2.size,.int .u64 P.2.seq,.string ⟨P.2.key.toArray⟩,.string ⟨P.2.val.toArray⟩,.bool P.2.del] 160)):=((hEi.setN (a:=⟨wr.heap.size+1,1,none⟩) hwz).setN (a:=⟨wr.heap.size+1,2,none⟩) hwz).new _;have a1:=(hb1.cell 1).trans (show _=some (Value.int .i64 tr) from rfl);have e1:=hb1.free 1;have a2:=(hb2.cell 2).trans (show _=some (Value.int .i64 tb) from by simp);have e2:=hb2.free 2;have x2:=(hX2.cell 2).trans (show _=some (Value.int .i64 P.2.size) from rfl);have z0:=(hX3.cell 0).trans (show _=some (Value.int .i64 k) from rfl);have z1:=(hX3.cell 1).trans (show _=some (Value.int .i64 P.1) from rfl);have z2:=(hX3.cell 2).trans (show _=some (Value.int .i64 P.2.size) from rfl);have z3:=(hX3.cell 3).trans (show _=some (Value.int .u64 P.2.seq) from rfl);have z4:=(hX3.cell 4).trans (show _=some (Value.string ⟨P.2.key.toArray⟩) from rfl);have z5:=(hX3.cell 5).trans (show _=some (Value.string ⟨P.2.val.toArray⟩) from rfl);have z6:=(hX3.cell 6).trans (show _=some (Value.bool P.2.del) from rfl);have r1:tr+1<=1099511627776:=by omega
     have r2:tb+P.2.size<=1099511627776:=by omega
     have r3:td+1<=1099511627776:=by omega
     have r4:te+P.2.size<=1099511627776:=by omega
     have hlvc:=b6t sb r c0 c1 c2 (.slice (some ⟨Cb,0,none⟩) n n') c5 (a0h bss n) (k,P) lg _ ((hE3.block sb HB.out.lt).trans HB.out) (HM.out.ext hE3) (by show P.2.key.length<=_;unfold maxLen;omega) hlg;obtain⟨bl,hbl2⟩:∃bl,U7 (y8 bss) k m=bl:=⟨_,rfl⟩;rw[hbl2] at hst hlv;dsimp only at hlvc;rw[hlv] at hlvc;have HLC:=Lib.hid hlvc;have HB3:=Lib.hid hb3;have HE3:=Lib.hid hE3;have HR3:=Lib.hid hR3;have HST:=Lib.hid hst;have HX3:=Lib.hid hX3;have HT:=Lib.hid hT;clear q6 q7 q8 hsp hsq q1 q2 q3 q4 q5 hP;clear hlvc hb3 hE3 hR3 hst hX3 hX2 hb1 hb2 hcells hlg hlv hbl2 hT hbx hp hwz hwz2;unfold l7 fdV I4 at HLC;go_wp2_with fail
     refine HLC.out.mono ?_;rintro e w4 ⟨rfl,hE4⟩;have hb4:j6 w4 (wr.heap.size+1) 67 _:=(hE4.block _ HB3.out.lt).trans HB3.out;have hX4:j6 w4 wi.heap.size 160 _:=(hE4.block _ HX3.out.lt).trans HX3.out;have hE4':=HE3.out.trans hE4;have hR4:=HR3.out.trans hE4
     cases bl with
     | true=>
      have HB4:=Lib.hid hb4;have HR4:=Lib.hid hR4;clear hb4 hX4 hE4' hR4 hE4 HLC;go_wp2;go_roundw
      case rel=>
       refine⟨m+1,by go_num,by omega,?_,HR4.out⟩;rw[HST.out];have:=HB4.out;simpa [statCells,St.add] using this
      case measure=>simp[intOf];omega
     | false=>
      have c3:=(hb4.cell 3).trans (show _=some (Value.int .i64 td) from by simp);have g3:=hb4.free 3;have hb5:=hb4.set 3 (.int .i64 ((td:Int)+1));have c4:=(hb5.cell 4).trans (show _=some (Value.int .i64 te) from by simp);have g4:=hb5.free 4;have hX5:=hX4.setOther (a:=⟨wr.heap.size+1,3,none⟩) (show wr.heap.size+1≠wi.heap.size by omega) (.int .i64 ((td:Int)+1));have y2:=(hX5.cell 2).trans (show _=some (Value.int .i64 P.2.size) from rfl);have hb6:=hb5.set 4 (.int .i64 ((te:Int)+(P.2.size:Int)));have hR6:=(hR4.setN (a:=⟨wr.heap.size+1,3,none⟩) (u:=.int .i64 ((td:Int)+1)) (Nat.le_succ _)).setN (a:=⟨wr.heap.size+1,4,none⟩) (u:=.int .i64 ((te:Int)+(P.2.size:Int))) (Nat.le_succ _);have HB6:=Lib.hid hb6;have HR6:=Lib.hid hR6;clear hb4 hX4 hE4' hR4 hE4 HLC hb5 hX5 hb6 hR6;go_wp2;go_roundw
      case rel=>
       refine⟨m+1,by go_num,by omega,?_,HR6.out⟩;rw[HST.out];have:=HB6.out;simpa [statCells,St.add] using this
      case measure=>simp[intOf];omega
    ·obtain rfl:m=L.length:=by omega
     obtain⟨ti,tr,tb,td,te⟩:=T;simp only[statCells] at hbx;have v0:=(hbx.cell 0).trans (show _=some (Value.int .i64 ti) from rfl);have v1:=(hbx.cell 1).trans (show _=some (Value.int .i64 tr) from rfl);have v2:=(hbx.cell 2).trans (show _=some (Value.int .i64 tb) from rfl);have v3:=(hbx.cell 3).trans (show _=some (Value.int .i64 td) from rfl);have v4:=(hbx.cell 4).trans (show _=some (Value.int .i64 te) from rfl);have hoi:wi.ownsRow w.heap.size 67 5 (.slice ua0 k uc0) k (((U4 ids (y8 bss) n).take k).flatMap statCells):=Dep.row HO.out wi fun b hb=>hEi.block b (World.ownsRow.lt HO.out b hb).2;have hwi:w.heap.size<=wi.heap.size:=(HE.out.trans hEi).size;have hso2:statOf ids (y8 bss) k=⟨ti,tr,tb,td,te⟩:=by rw[HSO.out,HID.out,hT]
     have htk:=a7Z (ids:=ids) (segs:=y8 bss) hlt;rw[hso2] at htk;have HTK:=Lib.hid htk;have HOI:=Lib.hid hoi;have HEI:=Lib.hid (HE.out.trans hEi);clear hso2 htk hoi hbx hT HSO HID HLV hEi q1 q2 q3 q4 q5 q6 q7 q8 HR HO HE;go_wp2_with (at_builtin;go_must (refine p8 rfl _ _ 62 rfl w.heap.size 67 i0 (.agg #[.int .i64 0,.int .i64 0,.int .i64 0,.int .i64 0,.int .i64 0]) 5 40 Tryz.underlying62 hi hz0 hz1 hz2 rfl (by omega) (.slice ua0 k uc0) k _ rfl (World.ownsRow.alloc HOI.out (.cells #[.int .i64 ti,.int .i64 tr,.int .i64 tb,.int .i64 td,.int .i64 te] 67)) (.slice (some ⟨wi.heap.size,0,none⟩) 1 1) 1 [.int .i64 ti,.int .i64 tr,.int .i64 tb,.int .i64 td,.int .i64 te] rfl ⟨_,_,rfl,by omega,⟨by omega,fun h=>by cases h⟩,fun _=>⟨_,rfl,World.news_of_block (cs:=#[.int .i64 ti,.int .i64 tr,.int .i64 tb,.int .i64 td,.int .i64 te]) (t:=67) (fr:=(0,0)) (heap_alloc_new wi _)⟩⟩ rfl (by simp[Value.oneCell']) (by unfold maxLen;omega) (by omega) (by simp;omega) ?_);intro b6 c6 w6 hown6 hgrow6 hat6;have HO6:=Lib.hid hown6;have HG6:=Lib.hid hgrow6;clear hown6 hgrow6 hat6)
     go_roundw
     case rel=>
      refine⟨k+1,by go_num,by omega,?_,?_⟩
      ·have:=HO6.out;rw[HTK.out,List.flatMap_append];simpa [statCells] using this
      ·exact Below.grown (HEI.out.new _) HG6.out (by simp;omega) (fun j hj=>(World.ownsRow.lt HOI.out j hj).1)
     case measure=>simp[intOf];omega
  ·obtain rfl:k=n:=by omega
   have htk:(U4 ids (y8 bss) k).take k=U4 ids (y8 bss) k:=List.take_of_length_le (by rw[a2h];exact Nat.le_refl _);rw[htk] at hown;have HF:=Lib.hid hown;have HE:=Lib.hid hE;clear hown hE;go_wp2;go_ret;exact⟨_,rfl,HF.out,HE.out⟩
end
end Go.Proofs.YtgpbhjjajpbeeaaGreatDoor
