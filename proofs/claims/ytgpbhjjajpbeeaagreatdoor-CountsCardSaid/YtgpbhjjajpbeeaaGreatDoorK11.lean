/- A part of what the last file proves. -/
import Derived.Test.YtgpbhjjajpbeeaaGreatDoorK10
import Derived.StringKeys
set_option linter.all false
set_option maxRecDepth 100000
set_option maxHeartbeats 2000000
namespace Go.Proofs.YtgpbhjjajpbeeaaGreatDoor
section
open Go.RowKit Go.Lib Pl
def cnt(l:List UInt8):Nat:=num ((l.drop 12).take 2)
def a8B(l:List UInt8)(i:Nat):Nat:=num ((l.drop (14+4*i)).take 4)
def P5(l:List UInt8)(k:Nat):List Int:=(List.range k).map fun i=>(a8B l i:Int)
def a0B(l:List UInt8):Bool:=
 decide (14<=l.length)&&(decide (l.length=14+4*cnt l)&&(decide (crc (l.drop 4)=num (l.take 4))&&U1 (P5 l (cnt l))))
def readMan(l:List UInt8):Option (Nat×List Int):=
 if a0B l=true then some (num ((l.drop 4).take 8),P5 l (cnt l)) else none
theorem a8C(l:List UInt8)(k:Nat):P5 l (k+1)=P5 l k++[(a8B l k:Int)]:=by simp[P5,List.range_succ]
theorem a1g(l:List UInt8)(k:Nat):(P5 l k).length=k:=by simp[P5]
theorem b5D(l:List UInt8)(k:Nat):a8B l k<4294967296:=I9 _ 4
theorem cnt_lt(l:List UInt8):cnt l<65536:=I9 _ 2
theorem b2M(l:List UInt8)(k:Nat):∀n∈P5 l k,0<=n/\n<4294967296:=by
 intro n hn;obtain⟨i,_,rfl⟩:=List.mem_map.1 hn;have:=b5D l i;omega
theorem b2N{n:Int}(h:0<=n/\n<4294967296):(Lit.int .i64 n).wf=true:=by
 simp only[Lit.wf,Bool.and_eq_true,decide_eq_true_eq];refine⟨?_,?_⟩
 ·show(-9223372036854775808:Int)<=n;omega
 ·show n<=(9223372036854775807:Int);omega
theorem P6{l:List UInt8}(h:a0B l=false):readMan l=none:=by unfold readMan;rw[h];rfl
theorem a1U{l:List UInt8}(h:l.length<14\/l.length≠14+4*cnt l):a0B l=false:=by
 unfold a0B;rcases h with h|h
 ·rw[decide_eq_false (show ¬14<=l.length by omega)];rfl
 ·rw[decide_eq_false h];simp
theorem a6M{l:List UInt8}(h:crc (l.drop 4)≠num (l.take 4)):a0B l=false:=by
 unfold a0B;rw[decide_eq_false h];simp
theorem a6N{l:List UInt8}(h:U1 (P5 l (cnt l))=false):a0B l=false:=by
 unfold a0B;rw[h];simp
theorem a5n{l:List UInt8}(h1:14<=l.length)(h2:l.length=14+4*cnt l)(h3:crc (l.drop 4)=num (l.take 4))(h4:U1 (P5 l (cnt l))=true):
 readMan l=some (num ((l.drop 4).take 8),P5 l (cnt l)):=by
 unfold readMan a0B;rw[decide_eq_true h1,decide_eq_true h2,decide_eq_true h3,h4];rfl
theorem rd3{l:List UInt8}{m g n:Nat}{s1 s2 s3:List UInt8×Bool}(e1:(m,s1)=rdN (l,false) 4)(e2:(g,s2)=rdN s1 8)(e3:(n,s3)=rdN s2 2):
 n<65536/\((l.length<14/\n=0/\s3.2=true)\/(14<=l.length/\s3=(l.drop 14,false)/\m=num (l.take 4)/\g=num ((l.drop 4).take 8)/\n=cnt l)):=by
 by_cases h4:l.length<4
 ·rw[Y2 h4] at e1;injection e1 with _ e1;subst e1;rw[Y1] at e2;injection e2 with _ e2;subst e2;rw[Y1] at e3;injection e3 with e3' e3;subst e3;subst e3';exact⟨by omega,.inl ⟨by omega,rfl,rfl⟩⟩
 rw[a2K (by omega)] at e1;injection e1 with f1 e1;subst e1;by_cases h12:l.length<12
 ·rw[Y2 (by simp;omega)] at e2;injection e2 with _ e2;subst e2;rw[Y1] at e3;injection e3 with e3' e3;subst e3;subst e3';exact⟨by omega,.inl ⟨by omega,rfl,rfl⟩⟩
 rw[a2K (by simp;omega)] at e2;injection e2 with f2 e2;subst e2;by_cases h14:l.length<14
 ·rw[Y2 (by simp;omega)] at e3;injection e3 with e3' e3;subst e3;subst e3';exact⟨by omega,.inl ⟨by omega,rfl,rfl⟩⟩
 rw[a2K (by simp;omega)] at e3;injection e3 with e3' e3;simp only[List.drop_drop,Nat.reduceAdd] at *;refine⟨?_,.inr ⟨by omega,e3,f1,f2,e3'⟩⟩;rw[e3'];exact I9 _ 2
def b1p(l:List UInt8)(k:Nat)(s:List UInt8×Bool)(L:List Int):Prop:=
 (s=(l.drop (14+4*k),false)/\14+4*k<=l.length/\L=P5 l k)\/(s.2=true/\(l.length<14\/l.length<14+4*cnt l))
theorem b1p.step{l:List UInt8}{k x:Nat}{s s':List UInt8×Bool}{L:List Int}(h:b1p l k s L)(hb:s.2=false)(hk:k<cnt l)(e:(x,s')=rdN s 4):x<4294967296/\b1p l (k+1) s' (L++[(x:Int)]):=by
 rcases h with⟨rfl,hl,rfl⟩|⟨h,_⟩
 ·by_cases h4:l.length<14+4*k+4
  ·rw[Y2 (by simp;omega)] at e;injection e with e1 e2;subst e1;subst e2;exact⟨by omega,.inr ⟨rfl,.inr (by omega)⟩⟩
  ·rw[a2K (by simp;omega)] at e;injection e with e1 e2;subst e1;subst e2;refine⟨I9 _ 4,.inl ⟨?_,by omega,?_⟩⟩
   ·rw[List.drop_drop];congr 2
   ·rw[a8C];rfl
 ·rw[h] at hb;cases hb
theorem b1p.all{l:List UInt8}{s:List UInt8×Bool}{L:List Int}(h:b1p l (cnt l) s L)(hb:s.2=false):s.1=l.drop (14+4*cnt l)/\14+4*cnt l<=l.length/\L=P5 l (cnt l):=by
 rcases h with⟨rfl,h1,h2⟩|⟨h,_⟩
 ·exact⟨rfl,h1,h2⟩
 ·rw[h] at hb;cases hb
theorem b1p.bad{l:List UInt8}{k:Nat}{s:List UInt8×Bool}{L:List Int}(h:b1p l k s L)(hb:s.2=true):a0B l=false:=by
 rcases h with⟨rfl,_⟩|⟨_,h⟩
 ·cases hb
 ·exact a1U (by omega)
end
section
open Go.RowKit Go.Lib Pl
def b5E(b B:Nat)(l:List UInt8)(w:World)(e:Ending)(w':World):Prop:=e=.returned (.slice none 0 0)/\G9 w' b B l true/\Off b w w'
def b5F(b B n:Nat)(l:List UInt8)(w:World)(e:Ending)(w':World):Prop:=∃v,e=.returned v/\O3 w' B v (l.take n)/\G9 w' b B (l.drop n) false/\Off b w w'
theorem b98(b B n:Nat)(l:List UInt8)(bad:Bool)(w:World)(h:G9 w b B l bad)(hn:bad=true\/l.length<n):
 Calls Tryz.prog 166 #[.pointer (some ⟨b,0,none⟩),.int .u64 n] w (b5E b B l w):=by
 obtain⟨v,hb,hBb,hv⟩:=h;have hfin:b5E b B l w (.returned (.slice none 0 0)) (w.setCell ⟨b,1,none⟩ (.bool true)):=by
  have hB:Off b w (w.setCell ⟨b,1,none⟩ (.bool true)):=(Off.refl b w).setCell 1 _;exact⟨rfl,⟨v,b2T hb,hBb,hv.below (hB.below hBb)⟩,hB⟩
 have HF:=Lib.hid hfin;clear hfin;obtain⟨hc0,hc1,hf0,hf1⟩:=a1q hb;clear hb;obtain⟨⟨a,cap,rfl,h1,h2,h3⟩,h4⟩:=hv;have hwl:IntKind.u64.wrap (l.length:Int)=(l.length:Int):=by rw[IntKind.wrap_u64];omega
 clear h2 h3 h4;by_cases hbad:bad=true
 ·subst hbad;go_enter Tryz.func166,Tryz.ntmps166
  go_wp2;go_ret;exact HF.out
 ·obtain rfl:bad=false:=by simpa using hbad
  have hlt:l.length<n:=by simpa using hn
  go_enter Tryz.func166,Tryz.ntmps166
  go_wp2;go_ret;exact HF.out
theorem b99(b B n:Nat)(l:List UInt8)(w:World)(h:G9 w b B l false)(hn:n<=l.length):
 Calls Tryz.prog 166 #[.pointer (some ⟨b,0,none⟩),.int .u64 n] w (b5F b B n l w):=by
 obtain⟨v,hb,hBb,hv⟩:=h;obtain⟨⟨a,cap,rfl,h1,h2,h3⟩,h4⟩:=id hv;have HV:=Lib.hid hv;have HB:=Lib.hid hb;obtain⟨hc0,hc1,hf0,hf1⟩:=a1q hb;clear hb hv;have hwl:IntKind.u64.wrap (l.length:Int)=(l.length:Int):=by rw[IntKind.wrap_u64];omega
 have hnl:¬l.length<n:=by omega
 clear h2 h3 h4;have hfin:∀u,O3 w B u (l.drop n)->b5F b B n l w (.returned (.slice a n n)) (w.setCell ⟨b,0,none⟩ u):=by
  intro u hu;have hB:Off b w (w.setCell ⟨b,0,none⟩ u):=(Off.refl b w).setCell 0 _;exact⟨_,rfl,(HV.out.head n hn).below (hB.below hBb),⟨u,b2S HB.out,hBb,hu.below (hB.below hBb)⟩,hB⟩
 have ht:=HV.out.sliced n l.length hn (Nat.le_refl _);rw[List.take_length] at ht;have HF:=Lib.hid hfin;clear hfin;have HT:=Lib.hid ht;clear ht;by_cases hcn:cap=n
 ·subst hcn;have HT':=Lib.hid (by simpa using HT.out:O3 w B (.slice a (l.length - cap) 0) (l.drop cap));go_enter Tryz.func166,Tryz.ntmps166
  go_wp2;go_ret;have e0:l.length - cap=0:=by omega
  have ht:=HT'.out;rw[e0] at ht;exact HF.out _ ht
 ·have HT':=Lib.hid (by simpa [hcn] using HT.out:O3 w B (.slice (Option.map (fun x=>x.add n) a) (l.length - n) (cap - n)) (l.drop n));go_enter Tryz.func166,Tryz.ntmps166
  go_wp2;go_ret;exact HF.out _ HT'.out
def a6g(b B:Nat)(m:Nat)(l:List UInt8)(bad:Bool)(w:World)(e:Ending)(w':World):Prop:=e=.returned (.int .u64 m)/\G9 w' b B l bad/\Off b w w'
theorem b2Q(b B n:Nat)(l:List UInt8)(bad:Bool)(w:World)(h:G9 w b B l bad)(hn:bad=true\/l.length<n):
 Calls Tryz.prog 126 #[.pointer (some ⟨b,0,none⟩),.int .u64 n] w (a6g b B 0 l true w):=by
 have H:=Lib.hid h;clear h;go_enter Tryz.func126,Tryz.ntmps126
 go_wp2_with fail
 refine(b98 b B n l bad w H.out hn).mono ?_;rintro e w1 ⟨rfl,h1,h2⟩;have H1:=Lib.hid h1;clear h1;go_wp2;refine wp_loop_rounds 1 ?_;rw[rounds_succ];go_wp2;go_ret;exact⟨rfl,H1.out,h2⟩
theorem b2R(b B n:Nat)(l:List UInt8)(w:World)(h:G9 w b B l false)(hn:n<=l.length)(h8:n<=8):
 Calls Tryz.prog 126 #[.pointer (some ⟨b,0,none⟩),.int .u64 n] w (a6g b B (num (l.take n)) (l.drop n) false w):=by
 have H:=Lib.hid h;clear h;go_enter Tryz.func126,Tryz.ntmps126
 go_wp2_with fail
 refine(b99 b B n l w H.out hn).mono ?_;rintro e w1 ⟨v,rfl,⟨hv,_⟩,h1,h2⟩;have H1:=Lib.hid h1;clear h1;have hlen:(l.take n).length<=8:=by rw[List.length_take];omega
 generalize l.take n=m at *;obtain⟨a,cap,rfl,hc,hc',hcell⟩:=hv.open;go_wp2;go_loop [5,7,12] (fun c _ i=>∃k:Nat,k<=m.length/\i=.int .i64 k/\c=.int .u64 (num (m.take k))) (fun _ _ i=>m.length - (intOf i).toNat)
 case atStart=>exact⟨0,Nat.zero_le _,rfl,rfl⟩
 case round=>
  obtain⟨k,hk,rfl,rfl⟩:=hrel;by_cases hlt:k<m.length
  ·obtain⟨ad,rfl,hb⟩:=hcell k hlt;have hs:Hid (num (m.take (k+1))=num (m.take k)*256+m[k].toNat):=by
    have e:num (m.take (k+1))=num (m.take k)*256+m[k].toNat:=by rw[L8 m k hlt,a8A]
    exact e
   have hC:num (m.take k)<256^7:=Nat.lt_of_lt_of_le (b1l _) (Nat.pow_le_pow_right (by omega) (by rw[List.length_take];omega));clear hcell;generalize num (m.take k)=C at *;have hx:=b0e m[k];generalize m[k]=x at *;have hC':C<72057594037927936:=hC;clear hC;go_wp2;go_round
   case rel=>
    refine⟨k+1,by omega,by go_num,?_⟩;rw[hs.out,b5I hC']
   case measure=>simp[intOf];omega
  ·go_wp2;go_ret;obtain rfl:k=m.length:=by omega
   exact⟨by rw[List.take_length];rfl,H1.out,h2⟩
theorem a1h(b B n:Nat)(s:List UInt8×Bool)(w:World)(h:G9 w b B s.1 s.2)(h8:n<=8):
 Calls Tryz.prog 126 #[.pointer (some ⟨b,0,none⟩),.int .u64 n] w (a6g b B (rdN s n).1 (rdN s n).2.1 (rdN s n).2.2 w):=by
 unfold rdN;by_cases hc:s.2=true\/s.1.length<n
 ·rw[if_pos hc];exact b2Q b B n s.1 s.2 w h hc
 ·rw[if_neg hc];have h2:s.2=false:=by simpa using fun e=>hc (.inl e)
  rw[h2] at h;exact b2R b B n s.1 w h (by omega) h8
end
section
open Go.RowKit Go.Lib Pl
def OwnI(w:World)(B:Nat)(v:Value)(l:List Int):Prop:=w.ownsRow B 3 1 v l.length (l.map (Value.int .i64))
theorem OwnI.ints{w:World}{B:Nat}{v:Value}{l:List Int}(h:OwnI w B v l):Ints w v l:=by
 have hh:=h;rcases h.2 with⟨rfl,h0⟩|⟨g,cap,cur,rfl,hb,hg,h1,h2,h3,h4⟩
 ·have:l=[]:=List.eq_nil_of_length_eq_zero h0;subst this;exact⟨none,0,rfl,by simp,⟨by omega,fun _=>rfl⟩,by simp⟩
 ·exact⟨some ⟨g,0,none⟩,cap,rfl,h1,⟨by unfold maxLen at h2;omega,fun h=>by cases h⟩,fun _=>⟨_,rfl,fun i x hx=>hh.cells rfl i x hx⟩⟩
def c3N(r:Option (Nat×List Int))(w:World)(e:Ending)(w':World):Prop:=
 ∃g v y,e=.returned (.tuple #[.agg #[.int .u64 g,v],y])/\Ext w w'/\
  ((r=none/\g=0/\v=.slice none 0 0/\y=Q6 6)\/(∃gen ids,r=some (gen,ids)/\g=(gen:Int)/\y=.nilIface/\OwnI w' w.heap.size v ids))
def a3D(w wr:World)(rb mb g:Nat)(s:List UInt8×Bool)(L:List Int)(v:Value):Prop:=
 G9 wr rb w.heap.size s.1 s.2/\j6 wr w.heap.size 125 #[.int .u64 0,.slice none 0 0]/\j6 wr mb 125 #[.int .u64 g,v]/\OwnI wr w.heap.size v L/\Ext w wr/\w.heap.size<rb/\rb<mb
theorem a3D.off{w wr w1:World}{rb mb g:Nat}{s s':List UInt8×Bool}{L:List Int}{v:Value}(h:a3D w wr rb mb g s L v)(hO:Off rb wr w1)(hR:G9 w1 rb w.heap.size s'.1 s'.2):a3D w w1 rb mb g s' L v:=by
 obtain⟨h1,h2,h3,h4,h5,h6,h7⟩:=h;obtain⟨rv,hr1,_,_⟩:=h1;have hne:=a0d h4 hr1 (by decide);refine⟨hR,hO.box h2 (by omega),hO.box h3 (by omega),?_,Below.trans h5 (hO.below (by omega)),h6,h7⟩;obtain⟨q1,q2⟩:=h4;refine⟨q1,?_⟩;rcases q2 with q2|⟨gb,cap,cur,rfl,hg,hh,r⟩
 ·exact Or.inl q2
 ·exact Or.inr ⟨gb,cap,cur,rfl,hg,(hO.block gb (by intro e;subst e;exact hne rfl)).trans hh,r⟩
theorem a3D.ext{w wr w1:World}{rb mb g:Nat}{s:List UInt8×Bool}{L:List Int}{v:Value}(h:a3D w wr rb mb g s L v)(hE:Ext wr w1):a3D w w1 rb mb g s L v:=by
 obtain⟨h1,h2,h3,h4,h5,h6,h7⟩:=h;obtain⟨rv,hr1,hr2,hr3⟩:=h1;have hl2:=lt_of_block h2;have hl3:=lt_of_block h3;have hl1:=lt_of_block hr1;exact⟨⟨rv,(hE.block _ hl1).trans hr1,hr2,hr3.below (hE.mono (by omega))⟩,h2.below hE hl2,h3.below hE hl3,ownsRow_below h4 hE,Ext.trans h5 hE,h6,h7⟩
theorem a3D.grow{w wr w0 w1:World}{rb mb g:Nat}{s:List UInt8×Bool}{L:List Int}{v v':Value}(h:a3D w wr rb mb g s L v)(hb0:Ext wr w0)(hgrow:w0.grownBy w1 v.ownBlock)
 {n:Nat}{xs:List Value}(hown1:w1.ownsRow w.heap.size 3 1 v' n xs){L':List Int}(hn:n=L'.length)(hx:xs=L'.map (Value.int .i64)):
 j6 w1 mb 125 #[.int .u64 g,v]/\a3D w (w1.setCell ⟨mb,1,none⟩ v') rb mb g s L' v':=by
 subst hn;subst hx;obtain⟨h1,h2,h3,h4,h5,h6,h7⟩:=h.ext hb0;obtain⟨rv,hr1,hr2,hr3⟩:=h1;have hl2:=lt_of_block h2;have hl3:=lt_of_block h3;have hl1:=lt_of_block hr1;have hne1:=a0d h4 hr1 (by decide);have hne2:=a0d h4 h2 (by decide);have hne3:=a0d h4 h3 (by decide);have hr1':=(hgrow.block rb hl1 (Ne.symm hne1)).trans hr1;have h2':j6 w1 w.heap.size 125 #[.int .u64 0,.slice none 0 0]:=(hgrow.block _ hl2 (Ne.symm hne2)).trans h2;have h3':j6 w1 mb 125 #[.int .u64 g,v]:=(hgrow.block mb hl3 (Ne.symm hne3)).trans h3;have hlow:∀k,v.ownBlock=some k->w.heap.size<=k:=fun k hk=>(h4.lt k hk).1;have hE1:Ext w w1:=Below.grown h5 hgrow (by have:=h5.size;omega) hlow;refine⟨h3',⟨rv,?_,hr2,?_⟩,?_,h3'.set 1 v',?_,hE1.setN (by simp;omega),h6,h7⟩
 ·rw[Below.heap_setCell _ _ _ _ (by simp;omega)];exact hr1'
 ·have hB:Below w.heap.size w0 (w1.setCell ⟨mb,1,none⟩ v'):=((Below.refl _ w0).grown hgrow (by have:=h5.size;omega) hlow).setCell (by simp;omega) _;exact hr3.below hB
 ·exact h2'.setOther (by simp;omega) _
 ·exact ownsRow_setCell_other (a:=⟨mb,1,none⟩) hown1 (a0d hown1 (b:=mb) (t:=125) (by exact h3') (by decide)) _
theorem b97{w:World}{n B:Nat}{u1 u2:Value}{v:Value}{L:List Int}(hX:j6 w n 125 #[u1,u2])(h:OwnI w B v L)(g:Nat)(v':Value):
 OwnI ((w.setCell ⟨n,0,none⟩ (.int .u64 g)).setCell ⟨n,1,none⟩ v') B v L:=by
 have hne:=a0d h (b:=n) (t:=125) (by exact hX) (by decide);exact ownsRow_setCell_other (a:=⟨n,1,none⟩) (ownsRow_setCell_other (a:=⟨n,0,none⟩) h hne _) hne _
theorem b1o(v:Value)(l:List UInt8)(w:World)(h:Bytes w v l):
 Calls Tryz.prog 94 #[v] w (c3N (readMan l) w):=by
 obtain⟨⟨m1,s1⟩,e1⟩:∃p,p=rdN (l,false) 4:=⟨_,rfl⟩;obtain⟨⟨gen,s2⟩,e2⟩:∃p,p=rdN s1 8:=⟨_,rfl⟩;obtain⟨⟨n,s3⟩,e3⟩:∃p,p=rdN s2 2:=⟨_,rfl⟩;obtain⟨hn,hall⟩:=rd3 e1 e2 e3;have HA:=Lib.hid hall;clear hall;have E1:=Lib.hid e1;have E2:=Lib.hid e2;have E3:=Lib.hid e3;clear e1 e2 e3;obtain⟨i0,hi,hz0,hz1,hz2⟩:=info_parts a3q;obtain⟨a,cap,rfl,h1,h2,h3⟩:=id h;have HL:=Lib.hid (O3.of h);clear h h2 h3;go_enter Tryz.func94,Tryz.ntmps94
 go_wp2_with fail
 have x0:j6 (w.alloc (.cells #[.int .u64 0,.slice none 0 0] 125)) w.heap.size 125 #[.int .u64 0,.slice none 0 0]:=heap_alloc_new w _;have X:=x0.alloc (.cells #[.slice a l.length cap,.bool false] 241);have hEx:Ext w ((w.alloc (.cells #[.int .u64 0,.slice none 0 0] 125)).alloc (.cells #[.slice a l.length cap,.bool false] 241)):=((Ext.refl w).new _).new _;have hR:G9 ((w.alloc (.cells #[.int .u64 0,.slice none 0 0] 125)).alloc (.cells #[.slice a l.length cap,.bool false] 241)) (w.heap.size+1) w.heap.size l false:=by
  refine⟨.slice a l.length cap,?_,by omega,HL.out.below hEx⟩;exact j6.new _ _ (by simp)
 clear x0;have c1:=a1h (w.heap.size+1) w.heap.size 4 (l,false) _ hR (by omega);rw[<-E1.out] at c1;refine c1.mono ?_;clear c1 hR;rintro e w1 ⟨rfl,hR,hb⟩;replace hEx:=Below.trans hEx (hb.below (by omega));replace X:=hb.box X (by omega);clear hb;go_wp2_with fail
 have c2:=a1h (w.heap.size+1) w.heap.size 8 s1 _ hR (by omega);rw[<-E2.out] at c2;refine c2.mono ?_;clear c2 hR;rintro e w2 ⟨rfl,hR,hb⟩;replace hEx:=Below.trans hEx (hb.below (by omega));replace X:=hb.box X (by omega);clear hb;obtain⟨mb,hmb⟩:∃mb,mb=w2.heap.size:=⟨_,rfl⟩;have hlt:w.heap.size+1<mb:=by
  obtain⟨_,hr,_⟩:=hR;rw[hmb];exact lt_of_block hr
 go_wp2_with fail
 have hS0:a3D w (w2.alloc (.cells #[.int .u64 gen,.slice none 0 0] 125)) (w.heap.size+1) mb gen s2 [] (.slice none 0 0):=by
  have hE2:Ext w2 (w2.alloc (.cells #[.int .u64 gen,.slice none 0 0] 125)):=(Ext.refl _).new _;obtain⟨rv,hr1,hr2,hr3⟩:=hR;refine⟨⟨rv,?_,hr2,hr3.below (hE2.mono (by have:=hEx.size;omega))⟩,X.alloc _,j6.new _ _ hmb.symm,⟨rfl,Or.inl ⟨rfl,rfl⟩⟩,Ext.new hEx _,by omega,hlt⟩;exact(hE2.block _ (lt_of_block hr1)).trans hr1
 rw[<-hmb];have c3:=a1h (w.heap.size+1) w.heap.size 2 s2 _ hS0.1 (by omega);rw[<-E3.out] at c3;refine c3.mono ?_;clear c3 hR hEx X;rintro e w3 ⟨rfl,hR,hb⟩;have hS:=hS0.off hb hR;clear hS0 hb hR;clear hmb;have hU:b1p l 0 s3 []:=by
  rcases HA.out with⟨h1,_,h3⟩|⟨h1,h2,_⟩
  ·exact Or.inr ⟨h3,Or.inl h1⟩
  ·exact Or.inl ⟨h2,by omega,rfl⟩
 have hN:s3.2=false->n=cnt l/\14<=l.length/\m1=num (l.take 4)/\gen=num ((l.drop 4).take 8):=by
  intro hf;rcases HA.out with⟨_,_,h3⟩|⟨h1,_,h3,h4,h5⟩
  ·rw[h3] at hf;cases hf
  ·exact⟨h5,h1,h3,h4⟩
 have hN0:n<=cnt l/\(s3.2=true->n=0):=by
  rcases HA.out with⟨_,h2,_⟩|⟨_,h2,_,_,h5⟩
  ·exact⟨by omega,fun _=>h2⟩
  ·exact⟨by omega,fun h=>by rw[h2] at h;cases h⟩
 have HN:=Lib.hid hN;have HN0:=Lib.hid hN0;have HS:=Lib.hid hS;have HU:=Lib.hid hU;clear hN hN0 hS hU HA E1 E2 E3;go_wp2;go_loopw [7] (fun c wr=>∃(k:Nat)(s:List UInt8×Bool)(L:List Int)(v:Value),k<=n/\c=.int .u64 ((n:Int) - k)/\L.length=k/\(∀x∈L,(Lit.int .i64 x).wf=true)/\b1p l k s L/\(s3.2=true->s.2=true)/\a3D w wr (w.heap.size+1) mb gen s L v) (fun c _=>(intOf c).toNat)
 case atStart=>exact⟨0,s3,[],.slice none 0 0,Nat.zero_le _,by simp,rfl,by simp,HU.out,fun h=>h,HS.out⟩
 case round=>
  clear HS HU;obtain⟨k,s,L,v,hk,rfl,hLk,hwf,hU,hs3,hSt⟩:=hrel;obtain⟨rv,hr1,hr2,hr3⟩:=id hSt.1;obtain⟨rc0,rc1,rf0,rf1⟩:=a1q hr1;have xc0:=hSt.2.1.cell 0;have xc1:=hSt.2.1.cell 1;have xf0:=hSt.2.1.free 0;have xf1:=hSt.2.1.free 1;have mc0:=hSt.2.2.1.cell 0;have mc1:=hSt.2.2.1.cell 1;have mf1:=hSt.2.2.1.free 1;have HSt:=Lib.hid hSt;have HU:=Lib.hid hU;have HW:=Lib.hid hwf;have HR3:=Lib.hid hr3;clear hSt hU hwf hr1 hr2 hr3 rf0 rf1;by_cases hbad:s.2=true
  ·have hd:readMan l=none:=P6 (HU.out.bad hbad);rw[hbad] at rc1;have HX:=Lib.hid HSt.out.2.2.2.2.1;clear HSt HU HN HN0;by_cases hkn:k<n
   ·go_wp2;refine bodyPost_ret (v:=.tuple #[.agg #[.int .u64 0,.slice none 0 0],Q6 6]) (by simp[results,Tryz.results94,go_sem,xc0,xc1,Q6]) rfl ⟨0,_,_,rfl,?_,Or.inl ⟨hd,rfl,rfl,rfl⟩⟩;repeat' refine Ext.setN ?_ (by simp)
    exact HX.out
   ·go_wp2;refine bodyPost_ret (v:=.tuple #[.agg #[.int .u64 0,.slice none 0 0],Q6 6]) (by simp[results,Tryz.results94,go_sem,xc0,xc1,Q6]) rfl ⟨0,_,_,rfl,?_,Or.inl ⟨hd,rfl,rfl,rfl⟩⟩;repeat' refine Ext.setN ?_ (by simp)
    exact HX.out
  ·have hbf:s.2=false:=Bool.eq_false_iff.2 hbad;rw[hbf] at rc1;have hs3f:s3.2=false:=by
    cases h:s3.2 with
    | false=>rfl
    | true=>rw[hs3 h] at hbf;cases hbf
   obtain⟨hnc,hl14,hm1,hgen⟩:=HN.out hs3f;have HM1:=Lib.hid hm1;have HGEN:=Lib.hid hgen;have HNC:=Lib.hid hnc;have HLK:=Lib.hid hLk;clear hm1 hgen hLk;by_cases hkn:k<n
   ·obtain⟨⟨x,s'⟩,ex⟩:∃p,p=rdN s 4:=⟨_,rfl⟩;obtain⟨hx32,hU'⟩:=HU.out.step hbf (by omega) ex;have hwx:IntKind.i64.wrap (x:Int)=(x:Int):=IntWalk.i64_in _ (by omega);have hLn:L.length<65536:=by have:=HLK.out;omega
    clear hnc;have hcall:=a1h (w.heap.size+1) w.heap.size 4 s wr.drew (by
     obtain⟨q1,q2,q3,q4⟩:=HSt.out.1;exact⟨q1,q2,q3,q4.below ((Below.refl _ _).drew)⟩) (by omega)
    rw[<-ex] at hcall;have HU':=Lib.hid hU';have HC:=Lib.hid hcall;have HEX:=Lib.hid ex;clear hU' hcall ex;have hn16:n<65536:=hn;go_wp2_with fail
    go_region_law (first|(go_simp;go_at_call 126;refine HC.out.mono ?_;rintro e w5 ⟨rfl,hR5,hb5⟩;have hS5:=Lib.hid ((HSt.out.ext (Below.drew (Ext.refl wr))).off hb5 hR5);have m5:=hS5.out.2.2.1.cell 1;have mf5:=hS5.out.2.2.1.free 1;have ma5:=(hS5.out.2.2.1.alloc (.cells #[.int .i64 x] 3)).cell 1;clear hR5 hb5)|(refine step_append_lies _ (by rfl) _ _ _ (by rfl) w.heap.size 3 i0 _ 1 8 Tryz.underlying69 hi hz0 hz1 hz2 rfl (by omega) v L.length (L.map (Value.int .i64)) (by rfl) (hS5.out.2.2.2.1.alloc _) ⟨w5.heap.size,0,none⟩ 1 1 [_] (by rfl) (by rfl) (World.news_of_block (cs:=#[_]) (t:=3) (fr:=(0,0)) (heap_alloc_new w5 _)) (by simp[Value.oneCell']) (by omega) (by unfold maxLen;omega) (by omega) (by have:=hS5.out.2.2.2.2.1.size;simp;omega) (w5.heap.size+1) (by simp) ?_;intro gg cap6 w6 hown6 hgrow6 hat6 hlt6;have HST:=Lib.hid (hS5.out.grow (L':=L++[(x:Int)]) (Ext.new (Ext.refl w5) _) hgrow6 hown6 (by simp) (by simp));have m6:=HST.out.1.cell 1;have mf6:=HST.out.1.free 1))
    all_goals
     go_wp2;go_roundw
     case rel=>
      have hwf':∀y∈L++[(x:Int)],(Lit.int .i64 y).wf=true:=by
       intro y hy;rcases List.mem_append.1 hy with h|h
       ·exact HW.out y h
       ·simp only[List.mem_singleton] at h;subst h;exact b2N ⟨by omega,by omega⟩
      have hs3':s3.2=true->s'.2=true:=fun h=>absurd (h.symm.trans hs3f) (by decide);exact⟨k+1,s',L++[(x:Int)],_,by omega,by go_num,by have:=HLK.out;simp;omega,hwf',HU'.out,hs3',HST.out.2⟩
     case measure=>simp[intOf];omega
   ·obtain rfl:k=n:=by omega
    obtain⟨ra,rcap,rfl,hrc,hrc',-⟩:=HR3.out.1.open;rw[hnc] at HU;obtain⟨hrest,hlen,hLL⟩:=HU.out.all hbf;have hrl:s.1.length=l.length - (14+4*cnt l):=by rw[hrest];simp
    rw[hrl] at rc0;have HX:=Lib.hid HSt.out.2.2.2.2.1;by_cases hlong:14+4*cnt l<l.length
    ·have hd:readMan l=none:=P6 (a1U (by omega));clear HSt HU HN HN0;go_wp2;refine bodyPost_ret (v:=.tuple #[.agg #[.int .u64 0,.slice none 0 0],Q6 6]) (by simp[results,Tryz.results94,go_sem,xc0,xc1,Q6]) rfl ⟨0,_,_,rfl,?_,Or.inl ⟨hd,rfl,rfl,rfl⟩⟩;repeat' refine Ext.setN ?_ (by simp)
     exact HX.out
    ·have hl:l.length=14+4*cnt l:=by omega
     have hsl:∀W:World,Below w.heap.size w W->Bytes W (.slice (a.map (fun x=>⟨x.block,x.off+4,none⟩)) (l.length - 4) (cap - 4)) (l.drop 4):=by
      intro W hW;have:=((HL.out.below hW).sliced 4 l.length (by omega) (by omega)).1;rw[if_neg (by omega),List.take_length] at this;have e:a.map (fun x=>x.add 4)=a.map (fun x=>⟨x.block,x.off+4,none⟩):=by
       congr 1
      rw[<-e];exact this
     have HS:=Lib.hid hsl;clear hsl;have hs4:(4:Nat)<=l.length:=by omega
     have hs5:l.length<=cap:=h1;have hs6:¬cap=4:=by omega
     have hm4:m1<4294967296:=by rw[HM1.out];exact I9 l 4
     have hcall:=b2k (H:=Unit) v L wr HSt.out.2.2.2.1.ints HW.out;have hII:U1 L=U1 (P5 l (cnt l)):=by rw[hLL]
     have hOwn:OwnI wr w.heap.size v L:=HSt.out.2.2.2.1;have HO:=Lib.hid hOwn;have HSS:=Lib.hid (HS.out wr HX.out);rw[hl] at HSS;have hw3:∀c:Nat,c<4294967296->IntKind.u64.wrap (c:Int)=(c:Int):=fun c h=>by rw[IntKind.wrap_u64];omega
     have hwc:=hw3 _ (a3B (l.drop 4));have hne:(¬crc (l.drop 4)=m1->((crc (l.drop 4):Int) != (m1:Int))=true)/\(crc (l.drop 4)=m1->((crc (l.drop 4):Int) != (m1:Int))=false):=
      ⟨fun h=>by rw[bne,beq_eq_false_iff_ne.2 (by omega)];rfl,fun h=>by rw[bne,beq_iff_eq.2 (by omega)];rfl⟩
     have HNE:=Lib.hid hne;have HC:=Lib.hid hcall;have HII:=Lib.hid hII;have HLL:=Lib.hid hLL;clear hl14 hw3 hne hcall hII hLL hOwn HS;go_wp2_with fail
     refine(b1v _ _ _ HSS.out).mono ?_;rintro e w8 ⟨rfl,hw⟩;subst hw;by_cases hcr:crc (l.drop 4)=m1
     ·have hcr':=HNE.out.2 hcr;obtain⟨va,vc,rfl⟩:=ownsRow_form HO.out;go_wp2_with fail
      refine HC.out.mono ?_;rintro e w9 ⟨rfl,hE9⟩;have X9:=HSt.out.2.1.below hE9 (lt_of_block HSt.out.2.1);have M9:=HSt.out.2.2.1.below hE9 (lt_of_block HSt.out.2.2.1);have hO9:OwnI w9 w.heap.size (.slice va L.length vc) L:=ownsRow_below HO.out hE9;have hOe:=b97 X9 hO9 gen (.slice va L.length vc);have hE:Ext w w9:=Ext.trans HX.out hE9;have HXE:=Lib.hid hE;have HO9:=Lib.hid hO9;clear xc0 xc1 xf0 xf1 mc0 mc1 mf1 rc0 rc1 hE hO9 hE9;have xc0:=X9.cell 0;have xc1:=X9.cell 1;have xf0:=X9.free 0;have xf1:=X9.free 1;have mc0:=M9.cell 0;have mc1:=M9.cell 1;clear X9 M9
      cases hok:U1 L with
      | false=>
       have hd:readMan l=none:=P6 (a6N (by rw[<-HII.out];exact hok));go_wp2;refine bodyPost_ret (v:=.tuple #[.agg #[.int .u64 0,.slice none 0 0],Q6 6]) (by simp[results,Tryz.results94,go_sem,xc0,xc1,Q6]) rfl ⟨0,_,_,rfl,?_,Or.inl ⟨hd,rfl,rfl,rfl⟩⟩;repeat' refine Ext.setN ?_ (by simp)
       exact HXE.out
      | true=>
       have hd:readMan l=some (num ((l.drop 4).take 8),P5 l (cnt l)):=a5n (by omega) hl (by rw[<-HM1.out];exact hcr) (by rw[<-HII.out];exact hok);have HD:=Lib.hid hd;clear hd;go_wp2;refine bodyPost_ret (v:=.tuple #[.agg #[.int .u64 gen,.slice va L.length vc],.nilIface]) (by simp[results,Tryz.results94,go_sem,xc0,xc1]) rfl ⟨(gen:Int),_,_,rfl,?_,Or.inr ⟨gen,L,?_,rfl,rfl,?_⟩⟩
       ·repeat' refine Ext.setN ?_ (by simp)
        exact HXE.out
       ·rw[HD.out,HGEN.out,HLL.out]
       ·exact hOe
     ·have hcr':=HNE.out.1 hcr;have hd:readMan l=none:=P6 (a6M (by rw[<-HM1.out];exact hcr));go_wp2;refine bodyPost_ret (v:=.tuple #[.agg #[.int .u64 0,.slice none 0 0],Q6 6]) (by simp[results,Tryz.results94,go_sem,xc0,xc1,Q6]) rfl ⟨0,_,_,rfl,?_,Or.inl ⟨hd,rfl,rfl,rfl⟩⟩;repeat' refine Ext.setN ?_ (by simp)
      exact HX.out
end
section
open Go.RowKit Go.Lib
def a7h(F:Value->Prop)(w:World)(v:Value):Prop:=∀g c e fr,v.ownBlock=some g->w.heap[g]?=some (.cells c e fr)->∀x∈c,F x
def isByte(x:Value):Prop:=∃k:Int,x=.int .u8 k
abbrev a1P(w:World)(v:Value):Prop:=a7h isByte w v
theorem a1P.nil(w:World)(n c:Nat):a1P w (.slice none n c):=fun g c e fr h=>by cases h
theorem a7h.keep{F:Value->Prop}{w w':World}{v:Value}(h:a7h F w v)(he:∀g,v.ownBlock=some g->w'.heap[g]?=w.heap[g]?):a7h F w' v:=fun g c e fr hg hc=>h g c e fr hg ((he g hg)▸hc)
theorem a7X(l:List UInt8):∀x∈l.map byteV,isByte x:=by
 intro x hx;obtain⟨b,_,rfl⟩:=List.mem_map.1 hx;exact⟨_,rfl⟩
theorem a4f{F:Value->Prop}{z:Array Value}(h:∀x∈z,F x)(n:Nat):∀x∈Builtin.zeroCells z n,F x:=by
 intro x hx;unfold Builtin.zeroCells at hx;obtain⟨i,hi,rfl⟩:=Array.mem_map.1 hx;have h0:0<z.size:=by
  rcases Nat.eq_zero_or_pos z.size with h|h
  ·rw[h] at hi;simp at hi
  ·exact h
 have hlt:i%z.size<z.size:=Nat.mod_lt _ h0;rw[getElem!_pos z (i%z.size) hlt];exact h _ (Array.getElem_mem hlt)
theorem a7i{P:Program}{F:Value->Prop}(w:World)(base:Nat)(t ty e:TypeId)(i:TypeInfo)(z:Value)(size bytes:Nat)(ht:P.underlying t=some (.slice e))(hi:P.info? e=some i)(hz:i.zero=some z)
 (hsize:i.size=size)(hby:i.bytes=bytes)(hzs:z.cells.size=size)(hsz:0<size)
 (v:Value)(n:Nat)(xs:List Value)(hown:w.ownsRow base e size v n xs)(x:Value)(m:Nat)(news:List Value)(hx:U9 w x m news)(hl:news.length=m*size)(h1:∀u∈news,u.oneCell'=true)
 (h63:n+m<=maxLen)(hbytes:(n+m)*bytes<=140737488355328)(Fz:∀x∈z.cells,F x)(Fn:∀x∈news,F x)(Fo:a7h F w v){v':Value}{w':World}(hr:(Builtin.append_ #[t,t] ty #[v,x]).run P w=.ok v' w'):a7h F w' v':=by
 subst hsize;subst hby;have hsmall:n+m<=9223372036854775807:=by simp only[maxLen] at h63;omega
 obtain⟨a,c,rfl,hc1,⟨hc2,hc3⟩,hc⟩:=hx
 cases a with
 | none=>
  obtain rfl:=hc3 rfl;obtain rfl:m=0:=by omega
  rw[run_append_owned_none (P:=P) (w:=w) base t ty e i i.size ht hi v n xs hown] at hr;injection hr with e1 e2;subst e1;subst e2
  exact Fo
 | some ad=>
  have hcell:∀j u,news[j]?=some u->w.cell? (ad.add j)=some u:=by
   intro j u hu;obtain⟨b,hb,hcc⟩:=hc (by intro e;subst e;simp at hu);injection hb with hb;subst hb;exact hcc j u hu
  rcases hown.2 with⟨rfl,rfl⟩|⟨g,cap,cur,rfl,hbg,hg,hnc,hcm,hcs,htake⟩
  ·by_cases hm:m=0
   ·subst hm;have hn:news=[]:=List.eq_nil_of_length_eq_zero (by simpa using hl);subst hn;have e0:(Builtin.append_ #[t,t] ty #[.slice none 0 0,.slice (some ad) 0 c]).run P w=.ok (.slice none 0 0) w:=by
     simp[Builtin.append_,run_underlying ht,sizeOf,typeInfo,hi,Builtin.lenOf,Builtin.firstCells,loadCells,loadCellsFrom]
    rw[e0] at hr;injection hr with e1 e2;subst e1;exact fun g c e fr h=>by cases h
   ·have e0:=run_append_nil (P:=P) w t ty e i z ht hi hz ad m c news hl hcell (by omega) (by omega) (by have hb:=hbytes;simp only[Nat.zero_add] at hb;omega);rw[e0] at hr;injection hr with e1 e2;subst e1;subst e2;intro g c e' fr hg' hc' y hy;obtain rfl:w.heap.size=g:=by simpa [Value.ownBlock] using hg'
    rw[show(w.drew.alloc (.cells (news.toArray++Builtin.zeroCells z.cells (grownCap w m 0 e - m)) e)).heap[w.heap.size]?=some (.cells (news.toArray++Builtin.zeroCells z.cells (grownCap w m 0 e - m)) e) from heap_alloc_new w.drew _] at hc';injection hc' with hc';injection hc' with e1 e2 e3;subst e1;rcases Array.mem_append.1 hy with h|h
    ·exact Fn y (by simpa using h)
    ·exact a4f Fz _ y h
  ·have Fc:∀x∈cur,F x:=Fo g cur e (0,0) rfl hg;by_cases hroom:n+m<=cap
   ·have hfit:n*i.size+news.length<=cur.size:=by rw[hl,hcs,<-Nat.add_mul];exact Nat.mul_le_mul_right _ hroom
    have e0:=run_append_room (P:=P) w t ty e i ht hi g n cap cur hg ad m c news hl hcell h1 hroom hfit;rw[e0] at hr;injection hr with e1 e2;subst e1;subst e2;intro g' c e' fr hg' hc' y hy;obtain rfl:g=g':=by simpa [Value.ownBlock] using hg'
    rw[setRow_heap w g cur _ e _ hg] at hc';injection hc' with hc';injection hc' with e1 e2 e3;subst e1;have hy':y∈cur.toList.take (n*i.size)++news++cur.toList.drop (n*i.size+news.length):=by simpa using hy
    rcases List.mem_append.1 hy' with h|h
    ·rcases List.mem_append.1 h with h|h
     ·exact Fc y (by simpa using List.mem_of_mem_take h)
     ·exact Fn y h
    ·exact Fc y (by simpa using List.mem_of_mem_drop h)
   ·have holds:∀j u,xs[j]?=some u->w.cell? ((⟨g,0,none⟩:Addr).add j)=some u:=hown.cells (g:=g) rfl;have e0:=run_append_grow (P:=P) w t ty e i z ht hi hz ⟨g,0,none⟩ n cap xs hown.1 holds ad m c news hl hcell (by omega) (by omega) (growslice_fits (by omega) hbytes);rw[e0] at hr;injection hr with e1 e2;subst e1;subst e2;intro g' c e' fr hg' hc' y hy;obtain rfl:w.heap.size=g':=by simpa [Value.ownBlock] using hg'
    rw[show ∀o,(w.drew.alloc o).heap[w.heap.size]?=some o from fun o=>heap_alloc_new w.drew _] at hc';injection hc' with hc';injection hc' with e1 e2 e3;subst e1;rcases Array.mem_append.1 hy with h|h
    ·rcases Array.mem_append.1 h with h|h
     ·have:y∈cur.toList.take (n*i.size):=by rw[htake];simpa using h
      exact Fc y (by simpa using List.mem_of_mem_take this)
     ·exact Fn y (by simpa using h)
    ·exact a4f Fz _ y h
theorem a0c{P:Program}{F:Value->Prop}{w:World}{ops:Array Oper}{rest:List Oper}{o:Oper}{a:Act}{Q:Exit->Act->World->Prop}(hgd:o.guard=none)(s x:Operand)(t:TypeId)
 (ho:o.op=.call {callee:=.builtin .append,args:=#[s,x],argTypes:=#[t,t]})
 (base:Nat)(e:TypeId)(i:TypeInfo)(z:Value)(size bytes:Nat)(ht:P.underlying t=some (.slice e))(hi:P.info? e=some i)(hz:i.zero=some z)
 (hsize:i.size=size)(hby:i.bytes=bytes)(hzs:z.cells.size=size)(hsz:0<size)
 (v:Value)(n:Nat)(xs:List Value)(hs:a.eval s=v)(hown:w.ownsRow base e size v n xs)(y:Value)(m:Nat)(news:List Value)(hy:a.eval x=y)(hx:U9 w y m news)(hl:news.length=m*size)(h1:∀u∈news,u.oneCell'=true)
 (h63:n+m<=maxLen)(hbytes:(n+m)*bytes<=140737488355328)(hbase:base<=w.heap.size)(Fz:∀x∈z.cells,F x)(Fn:∀x∈news,F x)(Fo:a7h F w v)
 (h:∀b c w',w'.ownsRow base e size (.slice b (n+m) c) (n+m) (xs++news)->w.grownBy w' v.ownBlock->((Value.slice b (n+m) c).ownBlock=v.ownBlock\/(Value.slice b (n+m) c).ownBlock=some w.heap.size)->a7h F w' (.slice b (n+m) c)->wpList P ops Q rest (a.put o.dst (.slice b (n+m) c)) w'):
 wpList P ops Q (o::rest) a w:=by
 refine wpList_plain hgd fun K hK=>?_;obtain⟨v',w',hrun,h2,h3,h4⟩:=a3r (P:=P) w base t o.type e i z size bytes ht hi hz hsize hby hzs hsz v n xs hown y m news hx hl h1 h63 hbytes hbase;have h5:=a7i (P:=P) w base t o.type e i z size bytes ht hi hz hsize hby hzs hsz v n xs hown y m news hx hl h1 h63 hbytes Fz Fn Fo hrun;obtain⟨b,c,rfl⟩:=ownsRow_form h2;unfold Oper.wp execOp;simp only[ho,resolve,invoke,builtin,Sem.run_bind,Sem.run_pure,Result.andThen_ok,List.map_toArray,List.map_cons,List.map_nil,hs,hy,hrun];exact hK _ _ (h b c w' h2 h3 h4 h5)
end
section
open Go.RowKit Go.Lib Go.Maps Dk
def strV(l:Nm):Value:=.string ⟨l.toArray⟩
def l7(x:Nat):Value:=.pointer (some ⟨x,0,none⟩)
theorem a2e(x y:Nm)(h:strV x=strV y):x=y:=by
 unfold strV at h;injection h with h;injection h with h;have:=congrArg Array.toList h;simpa using this
theorem a2f:Keyed Tryz.prog 9:=string_keyed Tryz.underlying9
theorem a5L{l:Nm}(h:l.length<=maxLen):keyOf Tryz.prog 9 (strV l)=some (.string l):=by
 have hs:(⟨l.toArray⟩:ByteArray).size<=maxLen:=by
  show l.toArray.size<=maxLen;simpa using h
 simp[keyOf,mapKey,Tryz.underlying9,strV,hs]
def a4w:Option Nat->Value
 | none=>.pointer none
 | some x=>l7 x
def moveCells(m:Mv):List Value:=[strV m.1,a4w m.2]
def Y5(w:World)(g:Nat)(l:List Mv):Prop:=j6 w g 251 (l.flatMap moveCells).toArray
def mvV(g:Nat)(l:List Mv):Value:=.slice (some ⟨g,0,none⟩) l.length l.length
def a5M(gs:List Nat)(x:Value):Prop:=x=.slice none 0 0\/∃g n,g∈gs/\x=.slice (some ⟨g,0,none⟩) n n
abbrev a3b(w:World)(r:Nat)(l:List (Nm×Nat)):Prop:=MapOf Tryz.prog 9 strV l7 w r l
structure DiskRep(w:World)(F:Nat->Prop)(a m1 m2:Nat)(mv:Value)(gs:List Nat)(dv:Nat->Value)(d:D):Prop where
 box:j6 w a 174 #[.map (some m1),.map (some m2),mv,.int .i64 d.room,.int .i64 d.wait,.int .i64 d.bad]
 now:a3b w m1 d.now
 safe:a3b w m2 d.safe
 ne:m1≠m2
 rows:gs.length=d.moves.length/\∀(i:Nat)(g:Nat)(l:List Mv),gs[i]?=some g->d.moves[i]?=some l->Y5 w g l
 outer:w.ownsRow 0 187 1 mv d.moves.length ((gs.zip d.moves).map fun p=>mvV p.1 p.2)
 file:∀x∈d.ids,j6 w x 176 #[dv x,.int .i64 (d.node x).safe]/\J8 w 0 (dv x) (d.node x).data
 apart:∀x∈d.ids,∀y∈d.ids,x≠y->∀b,(dv x).ownBlock=some b->(dv y).ownBlock≠some b
 fa:F a
 fm:F m1/\F m2
 fg:∀g∈gs,F g
 fo:∀b,mv.ownBlock=some b->F b
 fx:∀x∈d.ids,F x/\∀b,(dv x).ownBlock=some b->F b
 outf:a7h (a5M gs) w mv
 flat:∀x∈d.ids,a1P w (dv x)
 low:∀b,F b->b<w.heap.size
 wf:d.Wf
 num:d.wait<=9223372036854775807/\d.bad<=9223372036854775807/\-4611686018427387904<=d.room/\d.room<=4611686018427387904
def o8(w:World)(F:Nat->Prop)(a:Nat)(d:D):Prop:=∃m1 m2 mv gs dv,DiskRep w F a m1 m2 mv gs dv d
section
variable{w w':World}{F:Nat->Prop}{a m1 m2:Nat}{mv:Value}{gs:List Nat}{dv:Nat->Value}{d:D}
theorem DiskRep.frame(h:DiskRep w F a m1 m2 mv gs dv d)(hk:∀b,F b->w'.heap[b]?=w.heap[b]?)(hs:w.heap.size<=w'.heap.size):DiskRep w' F a m1 m2 mv gs dv d where
 box:=(hk a h.fa).trans h.box
 now:=h.now.block (hk _ h.fm.1)
 safe:=h.safe.block (hk _ h.fm.2)
 ne:=h.ne
 rows:=⟨h.rows.1,fun i g l hg hl=>(hk g (h.fg g (List.mem_of_getElem? hg))).trans (h.rows.2 i g l hg hl)⟩
 outer:=Dep.row h.outer w' fun b hb=>hk b (h.fo b hb)
 file:=fun x hx=>⟨(hk x (h.fx x hx).1).trans (h.file x hx).1,Dep.row (h.file x hx).2 w' fun b hb=>hk b ((h.fx x hx).2 b hb)⟩
 apart:=h.apart
 fa:=h.fa
 fm:=h.fm
 fg:=h.fg
 fo:=h.fo
 fx:=h.fx
 outf:=h.outf.keep fun b hb=>hk b (h.fo b hb)
 flat:=fun x hx=>(h.flat x hx).keep fun b hb=>hk b ((h.fx x hx).2 b hb)
 low:=fun b hb=>Nat.lt_of_lt_of_le (h.low b hb) hs
 wf:=h.wf
 num:=h.num
theorem DiskRep.ext(h:DiskRep w F a m1 m2 mv gs dv d)(hE:Ext w w'):DiskRep w' F a m1 m2 mv gs dv d:=h.frame (fun b hb=>hE.block b (h.low b hb)) hE.size
theorem o8.ext(h:o8 w F a d)(hE:Ext w w'):o8 w' F a d:=by
 obtain⟨m1,m2,mv,gs,dv,h⟩:=h;exact⟨m1,m2,mv,gs,dv,h.ext hE⟩
theorem o8.frame(h:o8 w F a d)(hk:∀b,F b->w'.heap[b]?=w.heap[b]?)(hs:w.heap.size<=w'.heap.size):o8 w' F a d:=by
 obtain⟨m1,m2,mv,gs,dv,h⟩:=h;exact⟨m1,m2,mv,gs,dv,h.frame hk hs⟩
theorem o8.low(h:o8 w F a d):∀b,F b->b<w.heap.size:=by
 obtain⟨m1,m2,mv,gs,dv,h⟩:=h;exact h.low
theorem o8.wf(h:o8 w F a d):d.Wf:=by
 obtain⟨m1,m2,mv,gs,dv,h⟩:=h;exact h.wf
theorem DiskRep.more(h:DiskRep w F a m1 m2 mv gs dv d){G:Nat->Prop}(hF:∀b,F b->G b)(hG:∀b,G b->b<w.heap.size):DiskRep w G a m1 m2 mv gs dv d:=
 {h with fa:=hF _ h.fa,fm:=⟨hF _ h.fm.1,hF _ h.fm.2⟩,fg:=fun g hg=>hF _ (h.fg g hg),fo:=fun b hb=>hF _ (h.fo b hb),fx:=fun x hx=>⟨hF _ (h.fx x hx).1,fun b hb=>hF _ ((h.fx x hx).2 b hb)⟩,low:=hG}
theorem DiskRep.map_ne(h:DiskRep w F a m1 m2 mv gs dv d){n:Nat}{t:TypeId}{cs:Array Value}(hb:j6 w n t cs):m1≠n/\m2≠n:=by
 constructor
 ·rintro rfl;obtain⟨es,c,h1,_⟩:=h.now;unfold j6 at hb;rw[h1] at hb;cases hb
 ·rintro rfl;obtain⟨es,c,h1,_⟩:=h.safe;unfold j6 at hb;rw[h1] at hb;cases hb
theorem K5{e:TypeId}{size:Nat}{v:Value}{n:Nat}{xs:List Value}{α β:Type}{k:TypeId}{kf:α->Value}{vf:β->Value}{P:Program}{r:Nat}{l:List (α×β)}{B:Nat}(h:w.ownsRow B e size v n xs)(hm:MapOf P k kf vf w r l):v.ownBlock≠some r:=by
 intro hv;obtain⟨es,c,h1,_⟩:=hm;rcases h.2 with⟨rfl,_⟩|⟨g,cap,cur,rfl,hg,hh,_⟩
 ·cases hv
 ·simp[Value.ownBlock] at hv;subst hv;rw[h1] at hh;cases hh
theorem a3n{n1 n2:Nat}{t1 t2:TypeId}{c1 c2:Array Value}(h1:j6 w n1 t1 c1)(h2:j6 w n2 t2 c2)(ht:t1≠t2):n1≠n2:=by
 rintro rfl;unfold j6 at h1 h2;rw[h1] at h2;injection h2 with h2;injection h2 with _ h2 _;exact ht h2
theorem A8{e t:TypeId}{size:Nat}{v:Value}{n m:Nat}{xs:List Value}{B:Nat}{cs:Array Value}(h:w.ownsRow B e size v n xs)(hb:j6 w m t cs)(ht:t≠e):v.ownBlock≠some m:=a0d h hb ht
theorem DiskRep.box'(h:DiskRep w F a m1 m2 mv gs dv d)(hO:Off a w w'){d':D}(hb:j6 w' a 174 #[.map (some m1),.map (some m2),mv,.int .i64 d'.room,.int .i64 d'.wait,.int .i64 d'.bad])
 (e1:d'.now=d.now)(e2:d'.safe=d.safe)(e3:d'.moves=d.moves)(e4:d'.ids=d.ids)(e5:d'.node=d.node)(hn:d'.wait<=9223372036854775807/\d'.bad<=9223372036854775807/\-4611686018427387904<=d'.room/\d'.room<=4611686018427387904):DiskRep w' F a m1 m2 mv gs dv d' where
 box:=hb
 now:=by rw[e1];exact h.now.off hO (h.map_ne h.box).1
 safe:=by rw[e2];exact h.safe.off hO (h.map_ne h.box).2
 ne:=h.ne
 rows:=by
  rw[e3];exact⟨h.rows.1,fun i g l hg hl=>(hO.block g (a3n (h.rows.2 i g l hg hl) h.box (by decide))).trans (h.rows.2 i g l hg hl)⟩
 outer:=by
  rw[e3];exact Dep.row h.outer w' fun b hb'=>hO.block b (fun e=>A8 h.outer h.box (by decide) (e▸hb'))
 file:=by
  rw[e4,e5];exact fun x hx=>⟨(hO.block x (a3n (h.file x hx).1 h.box (by decide))).trans (h.file x hx).1,Dep.row (h.file x hx).2 w' fun b hb'=>hO.block b (fun e=>A8 (h.file x hx).2 h.box (by decide) (e▸hb'))⟩
 apart:=by rw[e4];exact h.apart
 fa:=h.fa
 fm:=h.fm
 fg:=h.fg
 fo:=h.fo
 fx:=by rw[e4];exact h.fx
 outf:=h.outf.keep fun b hb'=>hO.block b (fun e=>A8 h.outer h.box (by decide) (e▸hb'))
 flat:=by
  rw[e4];exact fun x hx=>(h.flat x hx).keep fun b hb'=>hO.block b (fun e=>A8 (h.file x hx).2 h.box (by decide) (e▸hb'))
 low:=fun b hb=>by rw[hO.size];exact h.low b hb
 wf:=by
  obtain⟨h1,h2,h3,h4,h5⟩:=h.wf;exact⟨by rw[e1,e4];exact h1,by rw[e2,e4];exact h2,by rw[e3,e4];exact h3,by rw[e4,e5];exact h4,by rw[e4];exact h5⟩
 num:=hn
end
end
section
open Go.RowKit Go.Lib Go.Maps Dk
def a0I(room:Int):D:=⟨[],[],[],room,0,0,[],fun _=>⟨[],0⟩⟩
theorem b6i(room:Int):(a0I room).Wf:=⟨by simp[a0I],by simp[a0I],by simp[a0I],by simp[a0I],by simp[a0I]⟩
theorem b2b(room:Int)(w:World)(hr:-4611686018427387904<=room/\room<=4611686018427387904):
 Calls Tryz.prog 46 #[.int .i64 room] w fun e w'=>∃a F,e=.returned (l7 a)/\o8 w' F a (a0I room)/\Ext w w'/\(∀b,F b->w.heap.size<=b):=by
 have hmm:=@run_makeMap Tryz.prog;go_enter Tryz.func46,Tryz.ntmps46
 go_wp2;go_ret;have h1:a3b (w.alloc (.map #[] 0)) w.heap.size []:=MapOf.made w;have h2:a3b ((w.alloc (.map #[] 0)).alloc (.map #[] 0)) (w.heap.size+1) []:=by
  have:=MapOf.made (α:=Nm) (β:=Nat) (P:=Tryz.prog) (k:=9) (kf:=strV) (vf:=l7) (w.alloc (.map #[] 0));simpa using this
 have hE:Ext w (((w.alloc (.map #[] 0)).alloc (.map #[] 0)).alloc (.cells #[.map (some w.heap.size),.map (some (w.heap.size+1)),.slice none 0 0,.int .i64 room,.int .i64 0,.int .i64 0] 174)):=(((Ext.refl w).new _).new _).new _;refine⟨w.heap.size+2,fun b=>w.heap.size<=b/\b<w.heap.size+3,rfl,⟨w.heap.size,w.heap.size+1,.slice none 0 0,[],fun _=>.slice none 0 0,?_⟩,hE,fun b hb=>hb.1⟩;exact{
  box:=j6.new _ _ (by simp)
  now:=(h1.ext ((Ext.refl _).new _)).ext ((Ext.refl _).new _)
  safe:=h2.ext ((Ext.refl _).new _)
  ne:=by omega
  rows:=⟨rfl,by simp⟩
  outer:=⟨rfl,Or.inl ⟨rfl,rfl⟩⟩
  outf:=fun g c e fr h=>by cases h
  flat:=by simp[a0I]
  file:=by simp[a0I]
  apart:=by simp[a0I]
  fa:=by omega
  fm:=⟨by omega,by omega⟩
  fg:=by simp
  fo:=by simp[Value.ownBlock]
  fx:=by simp[a0I]
  low:=fun b hb=>by simp;omega
  wf:=b6i room
  num:=⟨by simp[a0I],by simp[a0I],hr.1,hr.2⟩}
def a7x(F:Nat->Prop)(a:Nat)(d:D)(w:World)(e:Ending)(w':World):Prop:=e=.returned (.bool d.fails.1)/\o8 w' F a d.fails.2/\Off a w w'
theorem a5K(F:Nat->Prop)(a:Nat)(d:D)(w:World)(h:o8 w F a d):Calls Tryz.prog 93 #[l7 a] w (a7x F a d w):=by
 obtain⟨m1,m2,mv,gs,dv,h⟩:=h;have hb:=h.box;have c4:=hb.cell 4;have c5:=hb.cell 5;have f4:=hb.free 4;have f5:=hb.free 5;have hn:=h.num;have H:=Lib.hid h;clear h;have HB:=Lib.hid hb;clear hb;unfold l7;by_cases hw:0<d.wait
 ·have hs:IntKind.i64.wrap ((d.wait:Int) - 1)=((d.wait - 1:Nat):Int):=by rw[IntWalk.i64_in _ (by omega)];omega
  go_enter Tryz.func93,Tryz.ntmps93
  go_wp2;go_ret;unfold a7x D.fails;rw[if_pos hw];refine⟨rfl,⟨m1,m2,mv,gs,dv,?_⟩,(Off.refl a w).setCell 4 _⟩;exact H.out.box' ((Off.refl a w).setCell 4 _) (by first|exact HB.out.set 4 _|(have:=HB.out.set 4 (.int .i64 ((d.wait - 1:Nat):Int));simpa using this)) rfl rfl rfl rfl rfl (by dsimp only;omega)
 ·by_cases hb:0<d.bad
  ·have hs:IntKind.i64.wrap ((d.bad:Int) - 1)=((d.bad - 1:Nat):Int):=by rw[IntWalk.i64_in _ (by omega)];omega
   go_enter Tryz.func93,Tryz.ntmps93
   go_wp2;go_ret;unfold a7x D.fails;rw[if_neg hw,if_pos hb];refine⟨rfl,⟨m1,m2,mv,gs,dv,?_⟩,(Off.refl a w).setCell 5 _⟩;exact H.out.box' ((Off.refl a w).setCell 5 _) (by first|exact HB.out.set 5 _|(have:=HB.out.set 5 (.int .i64 ((d.bad - 1:Nat):Int));simpa using this)) rfl rfl rfl rfl rfl (by dsimp only;omega)
  ·go_enter Tryz.func93,Tryz.ntmps93
   go_wp2;go_ret;unfold a7x D.fails;rw[if_neg hw,if_neg hb];exact⟨rfl,⟨m1,m2,mv,gs,dv,H.out⟩,Off.refl a w⟩
def Y4(w:World)(v:Value):Er->Prop
 | .ok=>v=.nilIface
 | .num n=>v=Q6 n
 | .file n name=>∃b,v=.iface 132 (.pointer (some ⟨b,0,none⟩))/\j6 w b 134 #[strV name,.int .i64 n]
theorem a01{w:World}{F:Nat->Prop}{n:Int}{name:Nm}(hF:∀b,F b->b<w.heap.size):
 Held (w.alloc (.cells #[strV name,.int .i64 n] 134)) F (fun W=>Y4 W (.iface 132 (.pointer (some ⟨w.heap.size,0,none⟩))) (.file n name)):=by
 have hb:j6 (w.alloc (.cells #[strV name,.int .i64 n] 134)) w.heap.size 134 #[strV name,.int .i64 n]:=j6.new _ _ rfl;exact(Held.box hb (fun h=>by have:=hF _ h;omega)).mono fun W hW=>⟨_,rfl,hW⟩
theorem a2B(w:World)(F:Nat->Prop):Held w F (fun W=>Y4 W .nilIface .ok):=(Held.true w F).mono fun _ _=>rfl
theorem b2c(w:World)(F:Nat->Prop)(n:Int):Held w F (fun W=>Y4 W (Q6 n) (.num n)):=(Held.true w F).mono fun _ _=>rfl
def a4u(F:Nat->Prop)(a:Nat)(d:D)(name:Nm)(w:World)(e:Ending)(w':World):Prop:=
 ∃v,e=.returned (.tuple #[a4w (d.find name).1,v])/\Held w' F (fun W=>Y4 W v (d.find name).2.1)/\o8 w' F a (d.find name).2.2/\Chg F F w w'
theorem b2d(w:World):(zeroValue 170).run Tryz.prog w=.ok (.pointer none) w:=by kernel_rfl
theorem a4Q(F:Nat->Prop)(a:Nat)(d:D)(name:Nm)(w:World)(h:o8 w F a d)(hn:name.length<=maxLen):Calls Tryz.prog 124 #[l7 a,strV name] w (a4u F a d name w):=by
 have hfail:=a5K F a d w h;have h0:=h;obtain⟨m1,m2,mv,gs,dv,h⟩:=h;have c0:=h.box.cell 0;have hlk:=h.now.look a2f a2e Tryz.underlying171 (b2d w) (a5L hn);have hfa:=h.fa;have h0low:=h.low;clear h;have HF:=Lib.hid hfail;have H0:=Lib.hid h0;clear hfail h0;have hlow:=h0low;unfold strV l7 at *
 cases hl:q9 d.now name with
 | none=>
  rw[hl] at hlk;simp only[Option.map_none,Option.getD_none] at hlk;go_enter Tryz.func124,Tryz.ntmps124
  go_wp2_with fail
  refine HF.out.mono ?_;rintro e w1 ⟨rfl,hD,hO⟩;have hl1:∀b,F b->b<w1.heap.size:=hD.low;have HD:=Lib.hid hD;have HO:=Lib.hid hO;clear hD hO hlk
  cases hf:d.fails.1 with
  | true=>
   go_wp2;go_ret2
   unfold a4u D.find;rw[if_pos hf]
   exact⟨_,rfl,a01 hl1,HD.out.ext ((Ext.refl w1).new _),(Chg.off HO.out hfa).trans (Chg.ext ((Ext.refl w1).new _))⟩
  | false=>
   go_wp2;go_ret2
   unfold a4u D.find;rw[if_neg (by rw[hf];decide),hl]
   exact⟨_,rfl,a01 hl1,HD.out.ext ((Ext.refl w1).new _),(Chg.off HO.out hfa).trans (Chg.ext ((Ext.refl w1).new _))⟩
 | some x=>
  rw[hl] at hlk;simp only[Option.map_some,Option.getD_some] at hlk;go_enter Tryz.func124,Tryz.ntmps124
  go_wp2_with fail
  refine HF.out.mono ?_;rintro e w1 ⟨rfl,hD,hO⟩;have hl1:∀b,F b->b<w1.heap.size:=hD.low;have HD:=Lib.hid hD;have HO:=Lib.hid hO;clear hD hO hlk
  cases hf:d.fails.1 with
  | true=>
   go_wp2;go_ret2
   unfold a4u D.find;rw[if_pos hf]
   exact⟨_,rfl,a01 hl1,HD.out.ext ((Ext.refl w1).new _),(Chg.off HO.out hfa).trans (Chg.ext ((Ext.refl w1).new _))⟩
  | false=>
   go_wp2;go_ret2
   unfold a4u D.find;rw[if_neg (by rw[hf];decide),hl];exact⟨_,rfl,a2B _ _,HD.out,Chg.off HO.out hfa⟩
end
end Go.Proofs.YtgpbhjjajpbeeaaGreatDoor
