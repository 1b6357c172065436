/- A part of what the last file proves. -/
import Derived.Test.YtgpbhjjajpbeeaaGreatDoorR01
import Derived.Maps.Keyed
import Derived.Laws.IdiomRangeMap
set_option linter.all false
set_option maxRecDepth 100000
set_option maxHeartbeats 2000000
namespace Go.Proofs.YtgpbhjjajpbeeaaGreatDoor
section
open Go.RowKit Go.Lib Pl
theorem add_block(a:Addr)(n:Nat):(a.add n).block=a.block:=by unfold Addr.add;split<;>rfl
def X3(w:World)(b:Nat)(v:Value)(l:List UInt8):Prop:=Bytes w v l/\∀ad n c,v=.slice (some ad) n c->l≠[]->ad.block<b
theorem X3.below{w w':World}{b:Nat}{v:Value}{l:List UInt8}(h:X3 w b v l)(hb:Below b w w'):X3 w' b v l:=by
 obtain⟨⟨a,cap,rfl,h1,h2,h3⟩,h4⟩:=h;refine⟨⟨a,cap,rfl,h1,h2,fun hx=>?_⟩,h4⟩;obtain⟨ad,rfl,hc⟩:=h3 hx;refine⟨ad,rfl,fun i x hi=>?_⟩;have hlt:=h4 ad _ _ rfl (by intro e;subst e;simp at hx);exact(hb.cell (p:=ad.add i) (by rw[add_block];exact hlt)).trans (hc i x hi)
theorem X3.of{w:World}{v:Value}{l:List UInt8}(h:Bytes w v l):X3 w w.heap.size v l:=by
 refine⟨h,?_⟩;rintro ad n c rfl hne;obtain⟨a,cap,hv,h1,h2,h3⟩:=h;injection hv with ha;obtain⟨b,hb,hc⟩:=h3 (by simpa using hne);rw[hb] at ha;injection ha with ha;subst ha
 cases l with
 | nil=>exact absurd rfl hne
 | cons x l=>
  have:=World.block_lt_of_cell? w _ (hc 0 _ rfl);rw[add_block] at this;exact this
theorem X3.sliced{w:World}{b:Nat}{a:Option Addr}{n cap:Nat}{l:List UInt8}(h:X3 w b (.slice a n cap) l)(i j:Nat)(hij:i<=j)(hj:j<=l.length):
 X3 w b (.slice (if cap=i then a else a.map (·.add i)) (j - i) (cap - i)) ((l.take j).drop i):=by
 refine⟨h.1.sliced i j hij hj,?_⟩;rintro ad m c hv hne;injection hv with ha;have hl:l≠[]:=by intro e;subst e;simp at hne
 cases a with
 | none=>split at ha<;>simp at ha
 | some a0=>
  have:=h.2 a0 n cap rfl hl;split at ha
  ·injection ha with ha;subst ha;exact this
  ·simp at ha;subst ha;rw[add_block];exact this
theorem X3.head{w:World}{b:Nat}{a:Option Addr}{m cap:Nat}{l:List UInt8}(h:X3 w b (.slice a m cap) l)(n:Nat)(hn:n<=l.length):X3 w b (.slice a n n) (l.take n):=by
 obtain⟨⟨a',c,hv,h1,h2,h3⟩,h4⟩:=h;injection hv with ha hm hc;subst ha;subst hc;have hlen:(l.take n).length=n:=by rw[List.length_take];omega
 refine⟨?_,?_⟩
 ·unfold Bytes;rw[hlen];refine⟨_,_,rfl,Nat.le_refl _,⟨by omega,fun hn=>by have:=h2.2 hn;omega⟩,fun hx=>?_⟩;obtain⟨ad,hb,hcell⟩:=h3 (by intro e;apply hx;simp at e;subst e;simp);refine⟨ad,hb,fun i x hi=>hcell i x ?_⟩;rw[List.map_take,List.getElem?_take] at hi;split at hi
  ·exact hi
  ·cases hi
 ·rintro ad k c hv hne;injection hv with ha;exact h4 ad _ _ (by rw[ha]) (by intro e;subst e;simp at hne)
def J6(w:World)(b B:Nat)(l:List UInt8)(bad:Bool):Prop:=
 ∃v,w.heap[b]?=some (.cells #[v,.bool bad] 241 (0,0))/\B<=b/\X3 w B v l
theorem J6.set{w:World}{b B:Nat}{l:List UInt8}{bad:Bool}(h:J6 w b B l bad){a:Addr}(ha:a.block≠b)(hB:B<=a.block)(u:Value):J6 (w.setCell a u) b B l bad:=by
 obtain⟨v,h1,h2,h3⟩:=h;exact⟨v,by rw[Below.heap_setCell _ _ _ _ (Ne.symm ha)];exact h1,h2,h3.below ((Below.refl B w).setCell hB _)⟩
def b96(b B:Nat)(l:List UInt8)(w:World)(e:Ending)(w':World):Prop:=e=.returned (.slice none 0 0)/\J6 w' b B l true/\Below b w w'
def b97(b B n:Nat)(l:List UInt8)(w:World)(e:Ending)(w':World):Prop:=∃v,e=.returned v/\X3 w' B v (l.take n)/\J6 w' b B (l.drop n) false/\Below b w w'
theorem a1V{w:World}{b:Nat}{u v:Value}{t:TypeId}(h:w.heap[b]?=some (.cells #[u,v] t (0,0))):
 w.cell? ⟨b,0,none⟩=some u/\w.cell? ⟨b,1,none⟩=some v/\w.frozen? ⟨b,0,none⟩=false/\w.frozen? ⟨b,1,none⟩=false:=by
 simp[World.cell?,World.frozen?,h]
theorem b3b{w:World}{b:Nat}{u v x:Value}{t:TypeId}(h:w.heap[b]?=some (.cells #[u,v] t (0,0))):(w.setCell ⟨b,0,none⟩ x).heap[b]?=some (.cells #[x,v] t (0,0)):=by
 simp[World.setCell,Array.getElem?_modify,h]
theorem b3c{w:World}{b:Nat}{u v x:Value}{t:TypeId}(h:w.heap[b]?=some (.cells #[u,v] t (0,0))):(w.setCell ⟨b,1,none⟩ x).heap[b]?=some (.cells #[u,x] t (0,0)):=by
 simp[World.setCell,Array.getElem?_modify,h]
theorem b5M(b B n:Nat)(l:List UInt8)(bad:Bool)(w:World)(h:J6 w b B l bad)(hn:bad=true\/l.length<n):
 Calls Tryz.prog 166 #[.pointer (some ⟨b,0,none⟩),.int .u64 n] w (b96 b B l w):=by
 obtain⟨v,hb,hBb,hv⟩:=h;have hfin:b96 b B l w (.returned (.slice none 0 0)) (w.setCell ⟨b,1,none⟩ (.bool true)):=by
  have hB:Below b w (w.setCell ⟨b,1,none⟩ (.bool true)):=(Below.refl b w).setCell (Nat.le_refl _) _;exact⟨rfl,⟨v,b3c hb,hBb,hv.below (hB.mono hBb)⟩,hB⟩
 have HF:=Lib.hid hfin;clear hfin;obtain⟨hc0,hc1,hf0,hf1⟩:=a1V hb;clear hb;obtain⟨⟨a,cap,rfl,h1,h2,h3⟩,h4⟩:=hv;have hwl:IntKind.u64.wrap (l.length:Int)=(l.length:Int):=by rw[IntKind.wrap_u64];omega
 clear h2 h3 h4;by_cases hbad:bad=true
 ·subst hbad;go_enter Tryz.func166,Tryz.ntmps166
  go_wp2;go_ret;exact HF.out
 ·obtain rfl:bad=false:=by simpa using hbad
  have hlt:l.length<n:=by simpa using hn
  go_enter Tryz.func166,Tryz.ntmps166
  go_wp2;go_ret;exact HF.out
theorem b5N(b B n:Nat)(l:List UInt8)(w:World)(h:J6 w b B l false)(hn:n<=l.length):
 Calls Tryz.prog 166 #[.pointer (some ⟨b,0,none⟩),.int .u64 n] w (b97 b B n l w):=by
 obtain⟨v,hb,hBb,hv⟩:=h;obtain⟨⟨a,cap,rfl,h1,h2,h3⟩,h4⟩:=id hv;have HV:=Lib.hid hv;have HB:=Lib.hid hb;obtain⟨hc0,hc1,hf0,hf1⟩:=a1V hb;clear hb hv;have hwl:IntKind.u64.wrap (l.length:Int)=(l.length:Int):=by rw[IntKind.wrap_u64];omega
 have hnl:¬l.length<n:=by omega
 clear h2 h3 h4;have hfin:∀u,X3 w B u (l.drop n)->b97 b B n l w (.returned (.slice a n n)) (w.setCell ⟨b,0,none⟩ u):=by
  intro u hu;have hB:Below b w (w.setCell ⟨b,0,none⟩ u):=(Below.refl b w).setCell (Nat.le_refl _) _;exact⟨_,rfl,(HV.out.head n hn).below (hB.mono hBb),⟨u,b3b HB.out,hBb,hu.below (hB.mono hBb)⟩,hB⟩
 have ht:=HV.out.sliced n l.length hn (Nat.le_refl _);rw[List.take_length] at ht;have HF:=Lib.hid hfin;clear hfin;have HT:=Lib.hid ht;clear ht;by_cases hcn:cap=n
 ·subst hcn;have HT':=Lib.hid (by simpa using HT.out:X3 w B (.slice a (l.length - cap) 0) (l.drop cap));go_enter Tryz.func166,Tryz.ntmps166
  go_wp2;go_ret;have e0:l.length - cap=0:=by omega
  have ht:=HT'.out;rw[e0] at ht;exact HF.out _ ht
 ·have HT':=Lib.hid (by simpa [hcn] using HT.out:X3 w B (.slice (Option.map (fun x=>x.add n) a) (l.length - n) (cap - n)) (l.drop n));go_enter Tryz.func166,Tryz.ntmps166
  go_wp2;go_ret;exact HF.out _ HT'.out
def a8O(b B:Nat)(m:Nat)(l:List UInt8)(bad:Bool)(w:World)(e:Ending)(w':World):Prop:=e=.returned (.int .u64 m)/\J6 w' b B l bad/\Below b w w'
theorem b4E(b B n:Nat)(l:List UInt8)(bad:Bool)(w:World)(h:J6 w b B l bad)(hn:bad=true\/l.length<n):
 Calls Tryz.prog 126 #[.pointer (some ⟨b,0,none⟩),.int .u64 n] w (a8O b B 0 l true w):=by
 have H:=Lib.hid h;clear h;go_enter Tryz.func126,Tryz.ntmps126
 go_wp2_with fail
 refine(b5M b B n l bad w H.out hn).mono ?_;rintro e w1 ⟨rfl,h1,h2⟩;have H1:=Lib.hid h1;clear h1;go_wp2;refine wp_loop_rounds 1 ?_;rw[rounds_succ];go_wp2;go_ret;exact⟨rfl,H1.out,h2⟩
theorem b5O{C:Nat}{x:UInt8}(hC:C<72057594037927936):bits BinOp.or IntKind.u64 ((C:Int)*256) (x.toNat:Int)=((C*256+x.toNat:Nat):Int):=by
 have hx:=b0t x;have h1:=u64_or_nat (C*256) x.toNat (by omega) (by omega);have h2:((C*256:Nat):Int)=(C:Int)*256:=by omega
 rw[h2] at h1;rw[h1,nat_join 8 (C*256) x.toNat (by omega) (by omega)]
theorem b4F(b B n:Nat)(l:List UInt8)(w:World)(h:J6 w b B l false)(hn:n<=l.length)(h8:n<=8):
 Calls Tryz.prog 126 #[.pointer (some ⟨b,0,none⟩),.int .u64 n] w (a8O b B (num (l.take n)) (l.drop n) false w):=by
 have H:=Lib.hid h;clear h;go_enter Tryz.func126,Tryz.ntmps126
 go_wp2_with fail
 refine(b5N b B n l w H.out hn).mono ?_;rintro e w1 ⟨v,rfl,⟨hv,_⟩,h1,h2⟩;have H1:=Lib.hid h1;clear h1;have hlen:(l.take n).length<=8:=by rw[List.length_take];omega
 generalize l.take n=m at *;obtain⟨a,cap,rfl,hc,hc',hcell⟩:=hv.open;go_wp2;go_loop [5,7,12] (fun c _ i=>∃k:Nat,k<=m.length/\i=.int .i64 k/\c=.int .u64 (num (m.take k))) (fun _ _ i=>m.length - (intOf i).toNat)
 case atStart=>exact⟨0,Nat.zero_le _,rfl,rfl⟩
 case round=>
  obtain⟨k,hk,rfl,rfl⟩:=hrel;by_cases hlt:k<m.length
  ·obtain⟨ad,rfl,hb⟩:=hcell k hlt;have hs:Hid (num (m.take (k+1))=num (m.take k)*256+m[k].toNat):=by
    have e:num (m.take (k+1))=num (m.take k)*256+m[k].toNat:=by rw[take_snoc m k hlt,a8L]
    exact e
   have hC:num (m.take k)<256^7:=Nat.lt_of_lt_of_le (b1y _) (Nat.pow_le_pow_right (by omega) (by rw[List.length_take];omega));clear hcell;generalize num (m.take k)=C at *;have hx:=b0t m[k];generalize m[k]=x at *;have hC':C<72057594037927936:=hC;clear hC;go_wp2;go_round
   case rel=>
    refine⟨k+1,by omega,by go_num,?_⟩;rw[hs.out,b5O hC']
   case measure=>simp[intOf];omega
  ·go_wp2;go_ret;obtain rfl:k=m.length:=by omega
   exact⟨by rw[List.take_length];rfl,H1.out,h2⟩
theorem Q9{w:World}{v:Value}{l:List UInt8}(hb:Bytes w v l):
 (convert 25 9 v).run Tryz.prog w=.ok (.string ⟨l.toArray⟩) w:=by
 obtain⟨a,cap,rfl,h1,h2,h3⟩:=hb.open
 cases a with
 | none=>
  have:l=[]:=by
   cases l with
   | nil=>rfl
   | cons x l=>obtain⟨b,hb,_⟩:=h3 0 (by simp);cases hb
  subst this
  exact run_convert_bytes_nil w 25 5 Tryz.underlying25 Tryz.underlying5 _ _ 9 Tryz.underlying9
 | some ad=>
  exact run_convert_bytes_back w 25 9 5 ad cap l Tryz.underlying25 Tryz.underlying5 Tryz.underlying9 (fun j hj=>by
   obtain⟨b,hb,hc⟩:=h3 j hj;injection hb with hb;subst hb;exact hc)
def b4G(b B:Nat)(s:List UInt8)(l:List UInt8)(bad:Bool)(w:World)(e:Ending)(w':World):Prop:=e=.returned (.string ⟨s.toArray⟩)/\J6 w' b B l bad/\Below b w w'
theorem b98(b B n:Nat)(l:List UInt8)(bad:Bool)(w:World)(h:J6 w b B l bad)(hn:bad=true\/l.length<n):
 Calls Tryz.prog 127 #[.pointer (some ⟨b,0,none⟩),.int .u64 n] w (b4G b B [] l true w):=by
 have H:=Lib.hid h;clear h;go_enter Tryz.func127,Tryz.ntmps127
 go_wp2_with fail
 refine(b5M b B n l bad w H.out hn).mono ?_;rintro e w1 ⟨rfl,h1,h2⟩;have H1:=Lib.hid h1;clear h1;have hs:=Q9 (w:=w1) (v:=.slice none 0 0) (l:=[]) ⟨none,0,rfl,Nat.le_refl _,⟨by omega,fun _=>rfl⟩,fun h=>absurd rfl h⟩;go_wp2;go_ret;exact⟨rfl,H1.out,h2⟩
theorem b99(b B n:Nat)(l:List UInt8)(w:World)(h:J6 w b B l false)(hn:n<=l.length):
 Calls Tryz.prog 127 #[.pointer (some ⟨b,0,none⟩),.int .u64 n] w (b4G b B (l.take n) (l.drop n) false w):=by
 have H:=Lib.hid h;clear h;go_enter Tryz.func127,Tryz.ntmps127
 go_wp2_with fail
 refine(b5N b B n l w H.out hn).mono ?_;rintro e w1 ⟨v,rfl,⟨hv,_⟩,h1,h2⟩;have H1:=Lib.hid h1;clear h1;have hs:=Q9 hv;clear hv;go_wp2;go_ret;exact⟨rfl,H1.out,h2⟩
theorem a1y(b B n:Nat)(s:List UInt8×Bool)(w:World)(h:J6 w b B s.1 s.2)(h8:n<=8):
 Calls Tryz.prog 126 #[.pointer (some ⟨b,0,none⟩),.int .u64 n] w (a8O b B (rdN s n).1 (rdN s n).2.1 (rdN s n).2.2 w):=by
 unfold rdN;by_cases hc:s.2=true\/s.1.length<n
 ·rw[if_pos hc];exact b4E b B n s.1 s.2 w h hc
 ·rw[if_neg hc];have h2:s.2=false:=by simpa using fun e=>hc (.inl e)
  rw[h2] at h;exact b4F b B n s.1 w h (by omega) h8
theorem b0u(b B n:Nat)(s:List UInt8×Bool)(w:World)(h:J6 w b B s.1 s.2):
 Calls Tryz.prog 127 #[.pointer (some ⟨b,0,none⟩),.int .u64 n] w (b4G b B (rdT s n).1 (rdT s n).2.1 (rdT s n).2.2 w):=by
 unfold rdT;by_cases hc:s.2=true\/s.1.length<n
 ·rw[if_pos hc];exact b98 b B n s.1 s.2 w h hc
 ·rw[if_neg hc];have h2:s.2=false:=by simpa using fun e=>hc (.inl e)
  rw[h2] at h;exact b99 b B n s.1 w h (by omega)
end
section
open Go.RowKit Go.Lib Pl
def a0G:Value:=.agg #[.int .u64 0,.string ⟨#[]⟩,.string ⟨#[]⟩,.bool false]
def a15:Option Rec->Value
 | none=>.tuple #[a0G,.int .i64 0,Y5 3]
 | some r=>.tuple #[.agg #[.int .u64 r.seq,.string ⟨r.key.toArray⟩,.string ⟨r.val.toArray⟩,.bool r.del],.int .i64 r.size,.nilIface]
def c4v(r:Option Rec)(w:World)(e:Ending)(w':World):Prop:=e=.returned (a15 r)/\Ext w w'
theorem o7.set{w:World}{n:Nat}{t:TypeId}{cs:Array Value}(h:o7 w n t cs)(i:Nat)(u:Value):o7 (w.setCell ⟨n,i,none⟩ u) n t (cs.setIfInBounds i u):=by
 unfold o7 at *;simp[World.setCell,Array.getElem?_modify,h]
theorem o7.setOther{w:World}{n:Nat}{t:TypeId}{cs:Array Value}(h:o7 w n t cs){a:Addr}(ha:a.block≠n)(u:Value):o7 (w.setCell a u) n t cs:=
 (Below.heap_setCell _ _ _ _ (Ne.symm ha)).trans h
theorem o7.free{w:World}{n:Nat}{t:TypeId}{cs:Array Value}(h:o7 w n t cs)(i:Nat):w.frozen? ⟨n,i,none⟩=false:=by
 unfold o7 at h;simp[World.frozen?,h]
theorem Ext.setN{w w':World}(h:Ext w w'){a:Addr}(ha:w.heap.size<=a.block){u:Value}:Ext w (w'.setCell a u):=h.setCell (p:=a) ha u
theorem decode_any(v:Value)(l:List UInt8)(w:World)(h:Bytes w v l):
 Calls Tryz.prog 71 #[v] w (c4v (dec l) w):=by
 obtain⟨⟨m1,s1⟩,e1⟩:∃p,p=rdN (l,false) 4:=⟨_,rfl⟩;obtain⟨⟨m2,s2⟩,e2⟩:∃p,p=rdN s1 8:=⟨_,rfl⟩;obtain⟨⟨fl,s3⟩,e3⟩:∃p,p=rdN s2 1:=⟨_,rfl⟩;obtain⟨⟨k,s4⟩,e4⟩:∃p,p=rdN s3 1:=⟨_,rfl⟩;obtain⟨⟨vl,s5⟩,e5⟩:∃p,p=rdN s4 2:=⟨_,rfl⟩;obtain⟨⟨key,s6⟩,e6⟩:∃p,p=rdT s5 k:=⟨_,rfl⟩;obtain⟨⟨val,s7⟩,e7⟩:∃p,p=rdT s6 vl:=⟨_,rfl⟩;obtain⟨hk,hvl,hall⟩:=c3V e1 e2 e3 e4 e5 e6 e7;have HA:=Lib.hid hall;clear hall;have E1:=Lib.hid e1;have E2:=Lib.hid e2;have E3:=Lib.hid e3;have E4:=Lib.hid e4;have E5:=Lib.hid e5;have E6:=Lib.hid e6;have E7:=Lib.hid e7;clear e1 e2 e3 e4 e5 e6 e7;obtain⟨a,cap,rfl,h1,h2,h3⟩:=id h;have HL:=Lib.hid (X3.of h);clear h h2 h3;go_enter Tryz.func71,Tryz.ntmps71
 go_wp2_with fail
 have x0:o7 (w.alloc (.cells #[.int .u64 0,.string ⟨#[]⟩,.string ⟨#[]⟩,.bool false] 111)) w.heap.size 111 #[.int .u64 0,.string ⟨#[]⟩,.string ⟨#[]⟩,.bool false]:=heap_alloc_new w _;have y0:o7 ((w.alloc (.cells #[.int .u64 0,.string ⟨#[]⟩,.string ⟨#[]⟩,.bool false] 111)).alloc (.cells #[.int .u64 0,.string ⟨#[]⟩,.string ⟨#[]⟩,.bool false] 111)) (w.heap.size+1) 111 #[.int .u64 0,.string ⟨#[]⟩,.string ⟨#[]⟩,.bool false]:=o7.new _ _ (by simp);have X:=(x0.alloc (.cells #[.int .u64 0,.string ⟨#[]⟩,.string ⟨#[]⟩,.bool false] 111)).alloc (.cells #[.slice a l.length cap,.bool false] 241);have Y:=y0.alloc (.cells #[.slice a l.length cap,.bool false] 241);have hEx:Ext w (((w.alloc (.cells #[.int .u64 0,.string ⟨#[]⟩,.string ⟨#[]⟩,.bool false] 111)).alloc (.cells #[.int .u64 0,.string ⟨#[]⟩,.string ⟨#[]⟩,.bool false] 111)).alloc (.cells #[.slice a l.length cap,.bool false] 241)):=(((Ext.refl w).new _).new _).new _;have hR:J6 (((w.alloc (.cells #[.int .u64 0,.string ⟨#[]⟩,.string ⟨#[]⟩,.bool false] 111)).alloc (.cells #[.int .u64 0,.string ⟨#[]⟩,.string ⟨#[]⟩,.bool false] 111)).alloc (.cells #[.slice a l.length cap,.bool false] 241)) (w.heap.size+1+1) w.heap.size l false:=by
  refine⟨.slice a l.length cap,?_,by omega,HL.out.below hEx⟩;exact o7.new _ _ (by simp)
 clear x0 y0;have c1:=a1y (w.heap.size+1+1) w.heap.size 4 (l,false) _ hR (by omega);rw[<-E1.out] at c1;refine c1.mono ?_;clear c1 hR;rintro e w1 ⟨rfl,hR,hb⟩;replace hEx:=Below.trans hEx (hb.mono (by omega));replace X:=X.below hb (by omega);replace Y:=Y.below hb (by omega);clear hb;go_wp2_with fail
 have c2:=a1y (w.heap.size+1+1) w.heap.size 8 s1 _ hR (by omega);rw[<-E2.out] at c2;refine c2.mono ?_;clear c2 hR;rintro e w2 ⟨rfl,hR,hb⟩;replace hEx:=Below.trans hEx (hb.mono (by omega));replace X:=X.below hb (by omega);replace Y:=Y.below hb (by omega);clear hb;have yc:w2.cell? ⟨w.heap.size+1,0,none⟩=some (.int .u64 0):=Y.cell 0;have yf:=Y.free 0;go_wp2_with fail
 clear yc yf;replace hR:=hR.set (a:=⟨w.heap.size+1,0,none⟩) (by simp) (by simp) (.int .u64 m2);replace X:=X.setOther (a:=⟨w.heap.size+1,0,none⟩) (by simp) (.int .u64 m2);replace Y:=Y.set 0 (.int .u64 m2);replace hEx:=hEx.setCell (p:=⟨w.heap.size+1,0,none⟩) (by simp) (.int .u64 m2);have c3:=a1y (w.heap.size+1+1) w.heap.size 1 s2 _ hR (by omega);rw[<-E3.out] at c3;refine c3.mono ?_;clear c3 hR;rintro e w3 ⟨rfl,hR,hb⟩;replace hEx:=Below.trans hEx (hb.mono (by omega));replace X:=X.below hb (by omega);replace Y:=Y.below hb (by omega);clear hb;go_wp2_with fail
 have c4:=a1y (w.heap.size+1+1) w.heap.size 1 s3 _ hR (by omega);rw[<-E4.out] at c4;refine c4.mono ?_;clear c4 hR;rintro e w4 ⟨rfl,hR,hb⟩;replace hEx:=Below.trans hEx (hb.mono (by omega));replace X:=X.below hb (by omega);replace Y:=Y.below hb (by omega);clear hb;go_wp2_with fail
 have c5:=a1y (w.heap.size+1+1) w.heap.size 2 s4 _ hR (by omega);rw[<-E5.out] at c5;refine c5.mono ?_;clear c5 hR;rintro e w5 ⟨rfl,hR,hb⟩;replace hEx:=Below.trans hEx (hb.mono (by omega));replace X:=X.below hb (by omega);replace Y:=Y.below hb (by omega);clear hb;go_wp2_with fail
 have c6:=b0u (w.heap.size+1+1) w.heap.size k s5 _ hR;rw[<-E6.out] at c6;refine c6.mono ?_;clear c6 hR;rintro e w6 ⟨rfl,hR,hb⟩;replace hEx:=Below.trans hEx (hb.mono (by omega));replace X:=X.below hb (by omega);replace Y:=Y.below hb (by omega);clear hb;go_wp2_with fail
 have c7:=b0u (w.heap.size+1+1) w.heap.size vl s6 _ hR;rw[<-E7.out] at c7;refine c7.mono ?_;clear c7 hR;rintro e w7 ⟨rfl,hR,hb⟩;replace hEx:=Below.trans hEx (hb.mono (by omega));replace X:=X.below hb (by omega);replace Y:=Y.below hb (by omega);clear hb;have yc1:w7.cell? ⟨w.heap.size+1,1,none⟩=some (.string ⟨#[]⟩):=Y.cell 1;have yc2:w7.cell? ⟨w.heap.size+1,2,none⟩=some (.string ⟨#[]⟩):=Y.cell 2;have yc3:w7.cell? ⟨w.heap.size+1,3,none⟩=some (.bool false):=Y.cell 3;have yf1:=Y.free 1;have yf2:=Y.free 2;have yf3:=Y.free 3;have xc0:w7.cell? ⟨w.heap.size,0,none⟩=some (.int .u64 0):=X.cell 0;have xc1:w7.cell? ⟨w.heap.size,1,none⟩=some (.string ⟨#[]⟩):=X.cell 1;have xc2:w7.cell? ⟨w.heap.size,2,none⟩=some (.string ⟨#[]⟩):=X.cell 2;have xc3:w7.cell? ⟨w.heap.size,3,none⟩=some (.bool false):=X.cell 3;have xf0:=X.free 0;have xf1:=X.free 1;have xf2:=X.free 2;have xf3:=X.free 3;have hwk:IntKind.i64.wrap (k:Int)=(k:Int):=IntWalk.i64_in _ (by omega);have hwv:IntKind.i64.wrap (vl:Int)=(vl:Int):=IntWalk.i64_in _ (by omega);obtain⟨rv,hr1,hr2,hr3⟩:=hR;obtain⟨rc0,rc1,rf0,rf1⟩:=a1V hr1;clear hr1 hr2 hr3 rf0 rf1 rc0;by_cases hbad:s7.2=true
 ·have hd:dec l=none:=by
   rcases HA.out with⟨_,h⟩|⟨h,_⟩
   ·unfold dec good;rw[decide_eq_false (by omega)];rfl
   ·rw[hbad] at h;cases h
  rw[hbad] at rc1;go_wp2;refine bodyPost_ret (v:=a15 none) ?_ rfl ⟨by rw[hd],?_⟩
  ·simp[results,Tryz.results71,go_sem,xc0,xc1,xc2,xc3,a15,a0G,Y5]
  ·repeat' refine Ext.setN ?_ (by simp)
   exact hEx
 replace hbad:s7.2=false:=Bool.eq_false_iff.2 hbad;rw[hbad] at rc1;obtain⟨hlen,rfl,rfl,rfl,rfl,rfl,rfl,rfl⟩:16+D7 l+H6 l<=l.length/\m1=num (List.take 4 l)/\m2=num (List.take 8 (List.drop 4 l))/\fl=P8 l/\k=D7 l/\vl=H6 l/\key=List.take k (List.drop 16 l)/\val=List.take vl (List.drop (16+k) l):=by
  rcases HA.out with⟨h,_⟩|⟨_,h⟩
  ·rw[hbad] at h;cases h
  ·exact h
 have HD:good l=false->dec l=none:=by intro h;unfold dec;rw[h];rfl
 by_cases c1:1<P8 l
 ·have hd:dec l=none:=HD (by unfold good;rw[show decide (P8 l<=1)=false from decide_eq_false (by omega)];simp);go_wp2;refine bodyPost_ret (v:=a15 none) ?_ rfl ⟨by rw[hd],?_⟩
  ·simp[results,Tryz.results71,go_sem,xc0,xc1,xc2,xc3,a15,a0G,Y5]
  ·repeat' refine Ext.setN ?_ (by simp)
   exact hEx
 by_cases c2:D7 l<1
 ·have hd:dec l=none:=HD (by unfold good;rw[show decide (1<=D7 l)=false from decide_eq_false (by omega)];simp);go_wp2;refine bodyPost_ret (v:=a15 none) ?_ rfl ⟨by rw[hd],?_⟩
  ·simp[results,Tryz.results71,go_sem,xc0,xc1,xc2,xc3,a15,a0G,Y5]
  ·repeat' refine Ext.setN ?_ (by simp)
   exact hEx
 by_cases c3:16<D7 l
 ·have hd:dec l=none:=HD (by unfold good;rw[show decide (D7 l<=16)=false from decide_eq_false (by omega)];simp);go_wp2;refine bodyPost_ret (v:=a15 none) ?_ rfl ⟨by rw[hd],?_⟩
  ·simp[results,Tryz.results71,go_sem,xc0,xc1,xc2,xc3,a15,a0G,Y5]
  ·repeat' refine Ext.setN ?_ (by simp)
   exact hEx
 by_cases c4:64<H6 l
 ·have hd:dec l=none:=HD (by unfold good;rw[show decide (H6 l<=64)=false from decide_eq_false (by omega)];simp);go_wp2;refine bodyPost_ret (v:=a15 none) ?_ rfl ⟨by rw[hd],?_⟩
  ·simp[results,Tryz.results71,go_sem,xc0,xc1,xc2,xc3,a15,a0G,Y5]
  ·repeat' refine Ext.setN ?_ (by simp)
   exact hEx
 by_cases c5:P8 l=1/\0<H6 l
 ·have hd:dec l=none:=HD (by unfold good;rw[show decide (P8 l=1)=true from decide_eq_true (by omega),show decide (0<H6 l)=true from decide_eq_true (by omega)];simp);have hv0:=c5.2;have hf1:((P8 l:Int)==1)=true:=beq_iff_eq.2 (by omega);go_wp2;refine bodyPost_ret (v:=a15 none) ?_ rfl ⟨by rw[hd],?_⟩
  ·simp[results,Tryz.results71,go_sem,xc0,xc1,xc2,xc3,a15,a0G,Y5]
  ·repeat' refine Ext.setN ?_ (by simp)
   exact hEx
 by_cases hf:P8 l=1
 ·have hv0:¬0<H6 l:=fun h=>c5 ⟨hf,h⟩;have hf1:((P8 l:Int)==1)=true:=beq_iff_eq.2 (by omega);have hsl:∀W:World,Below w.heap.size w W->Bytes W (.slice (a.map (fun x=>⟨x.block,x.off+4,none⟩)) (16+D7 l+H6 l - 4) (cap - 4)) ((l.take (16+D7 l+H6 l)).drop 4):=by
   intro W hW;have:=((HL.out.below hW).sliced 4 (16+D7 l+H6 l) (by omega) (by omega)).1;rw[if_neg (by omega)] at this;exact this
  have HS:=Lib.hid hsl;clear hsl;have hcap:16+D7 l+H6 l<=cap:=by omega
  have hm1:num (l.take 4)<4294967296:=O0 l 4;have hEx':Ext w (((w7.setCell ⟨w.heap.size+1,1,none⟩ (.string ⟨(List.take (D7 l) (List.drop 16 l)).toArray⟩)).setCell ⟨w.heap.size+1,2,none⟩ (.string ⟨(List.take (H6 l) (List.drop (16+D7 l) l)).toArray⟩)).setCell ⟨w.heap.size+1,3,none⟩ (.bool true)):=by
   repeat' refine Ext.setN ?_ (by simp)
   exact hEx
  have X':o7 (((w7.setCell ⟨w.heap.size+1,1,none⟩ (.string ⟨(List.take (D7 l) (List.drop 16 l)).toArray⟩)).setCell ⟨w.heap.size+1,2,none⟩ (.string ⟨(List.take (H6 l) (List.drop (16+D7 l) l)).toArray⟩)).setCell ⟨w.heap.size+1,3,none⟩ (.bool true)) w.heap.size 111 #[.int .u64 0,.string ⟨#[]⟩,.string ⟨#[]⟩,.bool false]:=by
   repeat' refine o7.setOther ?_ (by simp) _
   exact X
  have Y':o7 (((w7.setCell ⟨w.heap.size+1,1,none⟩ (.string ⟨(List.take (D7 l) (List.drop 16 l)).toArray⟩)).setCell ⟨w.heap.size+1,2,none⟩ (.string ⟨(List.take (H6 l) (List.drop (16+D7 l) l)).toArray⟩)).setCell ⟨w.heap.size+1,3,none⟩ (.bool true)) (w.heap.size+1) 111 #[.int .u64 (num ((l.drop 4).take 8)),.string ⟨(List.take (D7 l) (List.drop 16 l)).toArray⟩,.string ⟨(List.take (H6 l) (List.drop (16+D7 l) l)).toArray⟩,.bool true]:=
   ((Y.set 1 _).set 2 _).set 3 _
  go_wp2_with fail
  refine(sum_any _ _ _ (HS.out _ hEx')).mono ?_;rintro e w8 ⟨rfl,hw⟩;rw[hw] at X' Y' hEx';clear hw X Y hEx;clear xc0 xc1 xc2 xc3 xf0 xf1 xf2 xf3 yc1 yc2 yc3 yf1 yf2 yf3;have xc0:=X'.cell 0;have xc1:=X'.cell 1;have xc2:=X'.cell 2;have xc3:=X'.cell 3;have xf0:=X'.free 0;have xf1:=X'.free 1;have xf2:=X'.free 2;have xf3:=X'.free 3;have yc0:=Y'.cell 0;have yc1:=Y'.cell 1;have yc2:=Y'.cell 2;have yc3:=Y'.cell 3;have hwc:IntKind.u64.wrap (crc ((l.take (16+D7 l+H6 l)).drop 4):Int)=(crc ((l.take (16+D7 l+H6 l)).drop 4):Int):=by
   have:=a4a ((l.take (16+D7 l+H6 l)).drop 4);rw[IntKind.wrap_u64];omega
  by_cases hcr:crc ((l.take (16+D7 l+H6 l)).drop 4)=num (l.take 4)
  ·have hcr':((crc ((l.take (16+D7 l+H6 l)).drop 4):Int) != (num (l.take 4):Int))=false:=by rw[bne,beq_iff_eq.2 (by omega)];rfl
   go_wp2;refine bodyPost_ret (v:=a15 (some ⟨num ((l.drop 4).take 8),(l.drop 16).take (D7 l),(l.drop (16+D7 l)).take (H6 l),true,16+D7 l+H6 l⟩)) ?_ rfl ⟨?_,?_⟩
   ·simp[results,Tryz.results71,go_sem,xc0,xc1,xc2,xc3,a15,a0G,Y5]
   ·unfold dec;rw[if_pos (by unfold good;rw[decide_eq_true hlen,decide_eq_true hcr,decide_eq_true (show P8 l<=1 by omega),decide_eq_true (show 1<=D7 l by omega),decide_eq_true (show D7 l<=16 by omega),decide_eq_true (show H6 l<=64 by omega),decide_eq_false (show ¬0<H6 l by omega),Bool.and_false];rfl)];simp[hf]
   ·repeat' refine Ext.setN ?_ (by simp)
    exact hEx'
  ·have hcr':((crc ((l.take (16+D7 l+H6 l)).drop 4):Int) != (num (l.take 4):Int))=true:=by rw[bne,beq_eq_false_iff_ne.2 (by omega)];rfl
   have hd:dec l=none:=HD (by unfold good;rw[decide_eq_false hcr];simp);go_wp2;refine bodyPost_ret (v:=a15 none) ?_ rfl ⟨by rw[hd],?_⟩
   ·simp[results,Tryz.results71,go_sem,xc0,xc1,xc2,xc3,a15,a0G,Y5]
   ·repeat' refine Ext.setN ?_ (by simp)
    exact hEx'
 ·have hf1:((P8 l:Int)==1)=false:=beq_eq_false_iff_ne.2 (by omega);have hsl:∀W:World,Below w.heap.size w W->Bytes W (.slice (a.map (fun x=>⟨x.block,x.off+4,none⟩)) (16+D7 l+H6 l - 4) (cap - 4)) ((l.take (16+D7 l+H6 l)).drop 4):=by
   intro W hW;have:=((HL.out.below hW).sliced 4 (16+D7 l+H6 l) (by omega) (by omega)).1;rw[if_neg (by omega)] at this;exact this
  have HS:=Lib.hid hsl;clear hsl;have hcap:16+D7 l+H6 l<=cap:=by omega
  have hm1:num (l.take 4)<4294967296:=O0 l 4;have hEx':Ext w (((w7.setCell ⟨w.heap.size+1,1,none⟩ (.string ⟨(List.take (D7 l) (List.drop 16 l)).toArray⟩)).setCell ⟨w.heap.size+1,2,none⟩ (.string ⟨(List.take (H6 l) (List.drop (16+D7 l) l)).toArray⟩)).setCell ⟨w.heap.size+1,3,none⟩ (.bool false)):=by
   repeat' refine Ext.setN ?_ (by simp)
   exact hEx
  have X':o7 (((w7.setCell ⟨w.heap.size+1,1,none⟩ (.string ⟨(List.take (D7 l) (List.drop 16 l)).toArray⟩)).setCell ⟨w.heap.size+1,2,none⟩ (.string ⟨(List.take (H6 l) (List.drop (16+D7 l) l)).toArray⟩)).setCell ⟨w.heap.size+1,3,none⟩ (.bool false)) w.heap.size 111 #[.int .u64 0,.string ⟨#[]⟩,.string ⟨#[]⟩,.bool false]:=by
   repeat' refine o7.setOther ?_ (by simp) _
   exact X
  have Y':o7 (((w7.setCell ⟨w.heap.size+1,1,none⟩ (.string ⟨(List.take (D7 l) (List.drop 16 l)).toArray⟩)).setCell ⟨w.heap.size+1,2,none⟩ (.string ⟨(List.take (H6 l) (List.drop (16+D7 l) l)).toArray⟩)).setCell ⟨w.heap.size+1,3,none⟩ (.bool false)) (w.heap.size+1) 111 #[.int .u64 (num ((l.drop 4).take 8)),.string ⟨(List.take (D7 l) (List.drop 16 l)).toArray⟩,.string ⟨(List.take (H6 l) (List.drop (16+D7 l) l)).toArray⟩,.bool false]:=
   ((Y.set 1 _).set 2 _).set 3 _
  go_wp2_with fail
  refine(sum_any _ _ _ (HS.out _ hEx')).mono ?_;rintro e w8 ⟨rfl,hw⟩;rw[hw] at X' Y' hEx';clear hw X Y hEx;clear xc0 xc1 xc2 xc3 xf0 xf1 xf2 xf3 yc1 yc2 yc3 yf1 yf2 yf3;have xc0:=X'.cell 0;have xc1:=X'.cell 1;have xc2:=X'.cell 2;have xc3:=X'.cell 3;have xf0:=X'.free 0;have xf1:=X'.free 1;have xf2:=X'.free 2;have xf3:=X'.free 3;have yc0:=Y'.cell 0;have yc1:=Y'.cell 1;have yc2:=Y'.cell 2;have yc3:=Y'.cell 3;have hwc:IntKind.u64.wrap (crc ((l.take (16+D7 l+H6 l)).drop 4):Int)=(crc ((l.take (16+D7 l+H6 l)).drop 4):Int):=by
   have:=a4a ((l.take (16+D7 l+H6 l)).drop 4);rw[IntKind.wrap_u64];omega
  by_cases hcr:crc ((l.take (16+D7 l+H6 l)).drop 4)=num (l.take 4)
  ·have hcr':((crc ((l.take (16+D7 l+H6 l)).drop 4):Int) != (num (l.take 4):Int))=false:=by rw[bne,beq_iff_eq.2 (by omega)];rfl
   go_wp2;refine bodyPost_ret (v:=a15 (some ⟨num ((l.drop 4).take 8),(l.drop 16).take (D7 l),(l.drop (16+D7 l)).take (H6 l),false,16+D7 l+H6 l⟩)) ?_ rfl ⟨?_,?_⟩
   ·simp[results,Tryz.results71,go_sem,xc0,xc1,xc2,xc3,a15,a0G,Y5]
   ·unfold dec;rw[if_pos (by unfold good;rw[decide_eq_true hlen,decide_eq_true hcr,decide_eq_true (show P8 l<=1 by omega),decide_eq_true (show 1<=D7 l by omega),decide_eq_true (show D7 l<=16 by omega),decide_eq_true (show H6 l<=64 by omega),decide_eq_false hf];rfl)];simp[hf]
   ·repeat' refine Ext.setN ?_ (by simp)
    exact hEx'
  ·have hcr':((crc ((l.take (16+D7 l+H6 l)).drop 4):Int) != (num (l.take 4):Int))=true:=by rw[bne,beq_eq_false_iff_ne.2 (by omega)];rfl
   have hd:dec l=none:=HD (by unfold good;rw[decide_eq_false hcr];simp);go_wp2;refine bodyPost_ret (v:=a15 none) ?_ rfl ⟨by rw[hd],?_⟩
   ·simp[results,Tryz.results71,go_sem,xc0,xc1,xc2,xc3,a15,a0G,Y5]
   ·repeat' refine Ext.setN ?_ (by simp)
    exact hEx'
end
section
open Go.RowKit Go.Lib Pl
structure Off(g:Nat)(w w':World):Prop where
 os:w'.os=w.os
 tape:w'.tape=w.tape
 output:w'.output=w.output
 size:w'.heap.size=w.heap.size
 block:∀k,k≠g->w'.heap[k]?=w.heap[k]?
theorem Off.refl(g:Nat)(w:World):Off g w w:=⟨rfl,rfl,rfl,rfl,fun _ _=>rfl⟩
theorem Off.trans{g:Nat}{a b c:World}(h:Off g a b)(k:Off g b c):Off g a c:=
 ⟨k.os.trans h.os,k.tape.trans h.tape,k.output.trans h.output,k.size.trans h.size,fun i hi=>(k.block i hi).trans (h.block i hi)⟩
theorem Off.setCell{g:Nat}{w w':World}(h:Off g w w')(i:Nat)(u:Value):Off g w (w'.setCell ⟨g,i,none⟩ u):=by
 refine h.trans ⟨rfl,rfl,rfl,by simp[World.setCell],fun k hk=>?_⟩;simp[World.setCell,Array.getElem?_modify,Ne.symm hk]
theorem Off.below{g B:Nat}{w w':World}(h:Off g w w')(hB:B<=g):Below B w w':=
 ⟨h.os,h.tape,h.output,Nat.le_of_eq h.size.symm,fun k hk=>h.block k (by omega)⟩
theorem Off.box{g n:Nat}{w w':World}(h:Off g w w'){t:TypeId}{cs:Array Value}(hb:o7 w n t cs)(hn:n≠g):o7 w' n t cs:=(h.block n hn).trans hb
end
section
open Go.RowKit Go.Lib Go.Maps
section pure
variable{α β:Type}[DecidableEq α]
def F5(l:List (α×β))(x:α):Option β:=(l.find? fun p=>decide (p.1=x)).map (·.2)
def a1d(l:List (α×β))(x:α)(y:β):List (α×β):=if x∈l.map (·.1) then l.map fun p=>if p.1=x then(x,y) else p else l++[(x,y)]
def a3k(l:List (α×β))(x:α):List (α×β):=l.filter fun p=>decide (p.1≠x)
theorem b31{l:List (α×β)}{x:α}(h:∀p∈l,p.1≠x):F5 l x=none:=by
 unfold F5;rw[List.find?_eq_none.2 (fun p hp=>by simpa using h p hp)];rfl
theorem b2F{l:List (α×β)}{j:Nat}{p:α×β}(hn:(l.map (·.1)).Nodup)(hj:l[j]?=some p):F5 l p.1=some p.2:=by
 induction l generalizing j with
 | nil=>simp at hj
 | cons q l ih=>
  rw[List.map_cons,List.nodup_cons] at hn
  cases j with
  | zero=>simp at hj;subst hj;simp[F5]
  | succ j=>
   simp at hj;have hm:p∈l:=List.mem_of_getElem? hj;have hne:¬q.1=p.1:=fun e=>hn.1 (e▸List.mem_map_of_mem hm);have:=ih hn.2 hj;unfold F5 at *;rw[List.find?_cons_of_neg (by simpa using hne)];exact this
theorem a0N{l:List (α×β)}{x:α}{y:β}(h:F5 l x=some y):(x,y)∈l:=by
 unfold F5 at h;obtain⟨p,hp,rfl⟩:=Option.map_eq_some_iff.1 h;have h1:=List.find?_some hp;have h2:=List.mem_of_find?_eq_some hp;simp at h1;rw[<-h1];exact h2
theorem b6Q(l:List (α×β))(x:α)(y:β):(a1d l x y).map (·.1)=if x∈l.map (·.1) then l.map (·.1) else l.map (·.1)++[x]:=by
 unfold a1d;split
 ·rw[List.map_map];apply List.map_congr_left;intro p _;simp only[Function.comp];split
  ·rename_i h;exact h.symm
  ·rfl
 ·simp
theorem a4V{l:List (α×β)}(h:(l.map (·.1)).Nodup)(x:α)(y:β):((a1d l x y).map (·.1)).Nodup:=by
 rw[b6Q];split
 ·exact h
 ·rename_i hx;rw[List.nodup_append];exact⟨h,by simp,fun a ha b hb=>by simp at hb;subst hb;exact fun e=>hx (e▸ha)⟩
theorem b33{l:List (α×β)}(h:(l.map (·.1)).Nodup)(x:α):((a3k l x).map (·.1)).Nodup:=
 h.sublist (List.filter_sublist.map _)
theorem a5s{l:List (α×β)}{x:α}{y:β}{p:α×β}(h:p∈a1d l x y):p=(x,y)\/p∈l:=by
 unfold a1d at h;split at h
 ·obtain⟨q,hq,rfl⟩:=List.mem_map.1 h;split
  ·exact .inl rfl
  ·exact .inr hq
 ·rcases List.mem_append.1 h with h|h
  ·exact .inr h
  ·exact .inl (by simpa using h)
theorem b9d{l:List (α×β)}{x:α}{p:α×β}(h:p∈a3k l x):p∈l:=(List.mem_filter.1 h).1
end pure
theorem a1n{γ δ:Type}(f:γ->δ)(l:List γ)(j:Nat):(l.eraseIdx j).map f=(l.map f).eraseIdx j:=by
 induction l generalizing j with
 | nil=>rfl
 | cons x l ih=>cases j with
  | zero=>rfl
  | succ j=>simp[ih]
section heap
variable{α β:Type}{P:Program}{k:TypeId}{kf:α->Value}{vf:β->Value}{w:World}{r:Nat}{l:List (α×β)}
def MapOf(P:Program)(k:TypeId)(kf:α->Value)(vf:β->Value)(w:World)(r:Nat)(l:List (α×β)):Prop:=
 ∃es clock,w.heap[r]?=some (.map es clock)/\es.toList.map (fun e=>(e.key,e.val))=l.map (fun p=>(kf p.1,vf p.2))/\(∀e∈es.toList,e.born<clock)/\(es.toList.map (·.born)).Nodup/\
  (∀p∈l,∃t,keyOf P k (kf p.1)=some t)/\(l.map (·.1)).Nodup
theorem MapOf.nodup(h:MapOf P k kf vf w r l):(l.map (·.1)).Nodup:=h.choose_spec.choose_spec.2.2.2.2.2
theorem MapOf.lt(h:MapOf P k kf vf w r l):r<w.heap.size:=by
 obtain⟨es,clock,hb,_⟩:=h;rcases Nat.lt_or_ge r w.heap.size with h|h
 ·exact h
 ·rw[Array.getElem?_eq_none h] at hb;cases hb
theorem MapOf.block{w':World}(h:MapOf P k kf vf w r l)(hb:w'.heap[r]?=w.heap[r]?):MapOf P k kf vf w' r l:=by
 obtain⟨es,clock,h1,h2⟩:=h;exact⟨es,clock,hb.trans h1,h2⟩
theorem MapOf.off{w':World}{g:Nat}(h:MapOf P k kf vf w r l)(hO:Off g w w')(hg:r≠g):MapOf P k kf vf w' r l:=h.block (hO.block r hg)
theorem MapOf.ext{w':World}(h:MapOf P k kf vf w r l)(hE:Ext w w'):MapOf P k kf vf w' r l:=h.block (hE.block r h.lt)
theorem MapOf.made(w:World):MapOf (α:=α) (β:=β) P k kf vf (w.alloc (.map #[] 0)) w.heap.size []:=
 ⟨#[],0,heap_alloc_new w _,rfl,by simp,by simp,by simp,by simp⟩
theorem b34{es:Array MapEntry}(h2:es.toList.map (fun e=>(e.key,e.val))=l.map (fun p=>(kf p.1,vf p.2))){j:Nat}{e:MapEntry}(hj:es.toList[j]?=some e):∃p,l[j]?=some p/\e.key=kf p.1/\e.val=vf p.2:=by
 have h3:(es.toList.map (fun e=>(e.key,e.val)))[j]?=some (e.key,e.val):=by rw[List.getElem?_map,hj];rfl
 rw[h2,List.getElem?_map] at h3;obtain⟨p,hp,he⟩:=Option.map_eq_some_iff.1 h3;injection he with ha hb;exact⟨p,hp,ha.symm,hb.symm⟩
theorem b9e{es:Array MapEntry}(h2:es.toList.map (fun e=>(e.key,e.val))=l.map (fun p=>(kf p.1,vf p.2))){j:Nat}{p:α×β}(hj:l[j]?=some p):∃e,es.toList[j]?=some e/\e.key=kf p.1/\e.val=vf p.2:=by
 have h3:(l.map (fun p=>(kf p.1,vf p.2)))[j]?=some (kf p.1,vf p.2):=by rw[List.getElem?_map,hj];rfl
 rw[<-h2,List.getElem?_map] at h3;obtain⟨e,he,hp⟩:=Option.map_eq_some_iff.1 h3;injection hp with ha hb;exact⟨e,he,ha,hb⟩
theorem b6R{es:Array MapEntry}(h2:es.toList.map (fun e=>(e.key,e.val))=l.map (fun p=>(kf p.1,vf p.2)))(h5:∀p∈l,∃t,keyOf P k (kf p.1)=some t):∀e∈es.toList,∃t,keyOf P k e.key=some t:=by
 intro e he;obtain⟨j,hj⟩:=List.mem_iff_getElem?.1 he;obtain⟨p,hp,hk,_⟩:=b34 h2 hj;rw[hk];exact h5 p (List.mem_of_getElem? hp)
theorem MapOf.find(h:MapOf P k kf vf w r l)(K:Keyed P k)(hinj:∀x y,kf x=kf y->x=y){x:α}{t:Lit}(hx:keyOf P k (kf x)=some t){es:Array MapEntry}{clock:Nat}(hb:w.heap[r]?=some (.map es clock)):
 ((Instr.findKey k (kf x) es.toList).run P w=.ok none w/\(∀p∈l,p.1≠x))\/∃(j:Nat)(e:MapEntry)(y:β),(Instr.findKey k (kf x) es.toList).run P w=.ok (some (j,vf y)) w/\es.toList[j]?=some e/\e.key=kf x/\e.val=vf y/\l[j]?=some (x,y):=by
 obtain⟨es',clock',hb',h2,h3,h4,h5,h6⟩:=h;rw[hb] at hb';injection hb' with hb';injection hb' with e1 e2;subst e1;subst e2;rcases K.find w hx es.toList (b6R h2 h5) with⟨h,hne⟩|⟨j,e,h,hj,he⟩
 ·refine .inl ⟨h,fun p hp e=>?_⟩;obtain⟨j,hj⟩:=List.mem_iff_getElem?.1 hp;obtain⟨e0,he0,hk,_⟩:=b9e h2 hj;exact hne e0 (List.mem_of_getElem? he0) (by rw[hk,e])
 ·obtain⟨p,hp,hk,hv⟩:=b34 h2 hj;have hpx:p.1=x:=hinj _ _ (hk.symm.trans he);subst hpx;exact .inr ⟨j,e,p.2,by rw[h,hv],hj,he,hv,hp⟩
theorem MapOf.look[DecidableEq α](h:MapOf P k kf vf w r l)(K:Keyed P k)(hinj:∀x y,kf x=kf y->x=y){t e:TypeId}(ht:P.underlying t=some (.map k e)){z:Value}(hz:(zeroValue e).run P w=.ok z w){x:α}{lt:Lit}(hx:keyOf P k (kf x)=some lt):
 (Instr.lookup t (.map (some r)) (kf x) false).run P w=.ok (((F5 l x).map vf).getD z) w:=by
 have h0:=h;obtain⟨es,clock,hb,h2,h3,h4,h5,h6⟩:=h0;rcases h.find K hinj hx hb with⟨hf,hne⟩|⟨j,e0,y,hf,hj,he,hv,hp⟩
 ·rw[b31 hne];simp[Instr.lookup,run_underlying ht,MapKept.run_getObj_map hb,K.check w es.isEmpty hx,hf,hz]
 ·have:=b2F h6 hp;rw[this];simp[Instr.lookup,run_underlying ht,MapKept.run_getObj_map hb,K.check w es.isEmpty hx,hf]
theorem a7Q(w:World)(r:Nat)(o:Obj):Off r w {w with heap:=w.heap.setIfInBounds r o}:=
 ⟨rfl,rfl,rfl,by simp,fun j hj=>by simp[Array.getElem?_setIfInBounds,Ne.symm hj]⟩
theorem a5t{w:World}{r:Nat}(h:r<w.heap.size)(o:Obj):({w with heap:=w.heap.setIfInBounds r o}:World).heap[r]?=some o:=by
 simp[Array.getElem?_setIfInBounds,h]
theorem b6S{γ δ:Type}[DecidableEq γ]{l:List (γ×δ)}(hn:(l.map (·.1)).Nodup){i j:Nat}{p q:γ×δ}(hi:l[i]?=some p)(hj:l[j]?=some q)(h:p.1=q.1):i=j:=by
 have hi':(l.map (·.1))[i]?=some p.1:=by rw[List.getElem?_map,hi];rfl
 have hj':(l.map (·.1))[j]?=some p.1:=by rw[List.getElem?_map,hj,h];rfl
 have h1:=(List.getElem?_eq_some_iff.1 hi').1;exact(List.getElem?_inj h1 hn).1 (hi'.trans hj'.symm)
theorem MapOf.store[DecidableEq α](h:MapOf P k kf vf w r l)(K:Keyed P k)(hinj:∀x y,kf x=kf y->x=y){t e:TypeId}(ht:P.underlying t=some (.map k e)){x:α}{lt:Lit}(hx:keyOf P k (kf x)=some lt)(y:β):
 ∃w',(Instr.mapUpdate t (.map (some r)) (kf x) (vf y)).run P w=.ok () w'/\MapOf P k kf vf w' r (a1d l x y)/\Off r w w':=by
 have h0:=h;have hlt:=h.lt;obtain⟨es,clock,hb,h2,h3,h4,h5,h6⟩:=h0;have hkeys:∀p∈a1d l x y,∃t,keyOf P k (kf p.1)=some t:=by
  intro p hp;rcases a5s hp with rfl|hp
  ·exact⟨lt,hx⟩
  ·exact h5 p hp
 rcases h.find K hinj hx hb with⟨hf,hne⟩|⟨j,e0,y0,hf,hj,he,hv,hp⟩
 ·refine⟨_,by simp[Instr.mapUpdate,run_underlying ht,MapKept.run_getObj_map hb,K.check w false hx,hf,setObj,Sem.run,hb];rfl,?_,a7Q w r _⟩;have hmem:x∉l.map (·.1):=by
   intro hm;obtain⟨p,hp,e⟩:=List.mem_map.1 hm;exact hne p hp e
  refine⟨_,_,a5t hlt _,?_,?_,?_,hkeys,a4V h6 x y⟩
  ·unfold a1d;rw[if_neg hmem];simp[h2]
  ·intro e he;rw[Array.toList_push,List.mem_append] at he;rcases he with he|he
   ·have:=h3 e he;omega
   ·simp at he;subst he;simp
  ·rw[Array.toList_push,List.map_append,List.nodup_append];refine⟨h4,by simp,fun a ha b hb=>?_⟩;obtain⟨e,he,rfl⟩:=List.mem_map.1 ha;simp at hb;subst hb;exact Nat.ne_of_lt (h3 e he)
 ·have hje:es[j]?=some e0:=by simpa using hj
  have hstay:(Instr.keyThatStays (((es[j]?).map (·.key)).getD (kf x)) (kf x)).run P w=.ok (kf x) w:=by
   rw[hje];simp only[Option.map_some,Option.getD_some];rw[he];exact K.stays w hx
  refine⟨{w with heap:=w.heap.setIfInBounds r (.map (es.modify j fun e=>{e with key:=kf x,val:=vf y}) clock)},?_,?_,a7Q w r _⟩
  ·simp only[Instr.mapUpdate,Sem.run_bind,run_underlying ht,Result.andThen_ok,MapKept.run_getObj_map hb,K.check w false hx,hf,hstay];simp[setObj,Sem.run,hb]
  ·have hmem:x∈l.map (·.1):=List.mem_map.2 ⟨(x,y0),List.mem_of_getElem? hp,rfl⟩;have hmod:(es.modify j fun e=>{e with key:=kf x,val:=vf y}).toList=es.toList.modify j fun e=>{e with key:=kf x,val:=vf y}:=Array.toList_modify ..;refine⟨_,clock,a5t hlt _,?_,?_,?_,hkeys,a4V h6 x y⟩
   ·unfold a1d;rw[if_pos hmem,hmod];apply List.ext_getElem?;intro i;rw[List.getElem?_map,List.getElem?_map,List.getElem?_modify,List.getElem?_map];by_cases hij:j=i
    ·subst hij;rw[hj,hp];simp
    ·simp only[hij,if_false];have hz:(es.toList.map (fun e=>(e.key,e.val)))[i]?=(l.map (fun p=>(kf p.1,vf p.2)))[i]?:=by rw[h2]
     rw[List.getElem?_map,List.getElem?_map] at hz
     cases hl:l[i]? with
     | none=>rw[hl] at hz;simpa using hz
     | some q=>
      have hq:¬q.1=x:=fun e=>hij (b6S h6 hp hl (by simpa using e.symm));rw[hl] at hz;simpa [hq] using hz
   ·intro e he';rw[hmod] at he';obtain⟨i,hi⟩:=List.mem_iff_getElem?.1 he';rw[List.getElem?_modify] at hi;obtain⟨e1,he1,rfl⟩:=Option.map_eq_some_iff.1 hi;have:=h3 e1 (List.mem_of_getElem? he1);split<;>exact this
   ·rw[hmod];have:(es.toList.modify j fun e=>{e with key:=kf x,val:=vf y}).map (·.born)=es.toList.map (·.born):=by
     apply List.ext_getElem?;intro i;rw[List.getElem?_map,List.getElem?_modify,List.getElem?_map]
     cases es.toList[i]? with
     | none=>rfl
     | some e=>simp;split<;>rfl
    rw[this];exact h4
theorem MapOf.drop[DecidableEq α](h:MapOf P k kf vf w r l)(K:Keyed P k)(hinj:∀x y,kf x=kf y->x=y){t e:TypeId}(ht:P.underlying t=some (.map k e)){x:α}{lt:Lit}(hx:keyOf P k (kf x)=some lt)(ty:TypeId):
 ∃w',(Builtin.delete_ #[t,k] ty #[.map (some r),kf x]).run P w=.ok (.tuple #[]) w'/\MapOf P k kf vf w' r (a3k l x)/\Off r w w':=by
 have h0:=h;have hlt:=h.lt;obtain⟨es,clock,hb,h2,h3,h4,h5,h6⟩:=h0;rcases h.find K hinj hx hb with⟨hf,hne⟩|⟨j,e0,y0,hf,hj,he,hv,hp⟩
 ·refine⟨_,by simp[Builtin.delete_,run_underlying ht,MapKept.run_getObj_map hb,K.check w es.isEmpty hx,hf,setObj,Sem.run,hb];rfl,?_,a7Q w r _⟩;have hd:a3k l x=l:=List.filter_eq_self.2 (fun p hp=>by simpa using hne p hp);rw[hd];exact⟨es,clock,a5t hlt _,h2,h3,h4,h5,h6⟩
 ·refine⟨_,by simp[Builtin.delete_,run_underlying ht,MapKept.run_getObj_map hb,K.check w es.isEmpty hx,hf,setObj,Sem.run,hb];rfl,?_,a7Q w r _⟩;have hjl:j<es.size:=by
   have:=(List.getElem?_eq_some_iff.1 hj).1;simpa using this
  have her:(es.eraseIdxIfInBounds j).toList=es.toList.eraseIdx j:=by
   rw[Array.eraseIdxIfInBounds,dif_pos hjl,Array.toList_eraseIdx]
  have hd:a3k l x=l.eraseIdx j:=by
   unfold a3k;apply List.ext_getElem?;intro i;clear hf her;have hgen:∀(l:List (α×β))(j:Nat),(l.map (·.1)).Nodup->l[j]?=some (x,y0)->l.filter (fun p=>decide (p.1≠x))=l.eraseIdx j:=by
    intro l
    induction l with
    | nil=>intro j _ h;simp at h
    | cons q l ih=>
     intro j hn hj;rw[List.map_cons,List.nodup_cons] at hn
     cases j with
     | zero=>
      simp at hj;subst hj;have:l.filter (fun p=>decide (p.1≠x))=l:=List.filter_eq_self.2 (fun p hp=>by
       have:p.1≠x:=fun e=>hn.1 (by rw[<-show p.1=x from e];exact List.mem_map.2 ⟨p,hp,rfl⟩);simpa using this)
      simp only[List.eraseIdx_zero,List.tail_cons]
      rw[List.filter_cons_of_neg (by simp)];exact this
     | succ j=>
      simp at hj;have hq:q.1≠x:=fun e=>hn.1 (by rw[e];exact List.mem_map.2 ⟨(x,y0),List.mem_of_getElem? hj,rfl⟩);rw[List.filter_cons_of_pos (by simpa using hq),ih j hn.2 hj];rfl
   rw[hgen l j h6 hp]
  rw[hd];refine⟨_,clock,a5t hlt _,?_,?_,?_,?_,?_⟩
  ·rw[her,a1n,h2,a1n]
  ·intro e he';rw[her] at he';exact h3 e (List.mem_of_mem_eraseIdx he')
  ·rw[her,a1n];exact h4.sublist (List.eraseIdx_sublist ..)
  ·intro p hp;exact h5 p (List.mem_of_mem_eraseIdx hp)
  ·rw[a1n];exact h6.sublist (List.eraseIdx_sublist ..)
theorem MapOf.len(h:MapOf P k kf vf w r l){t e:TypeId}(ht:P.underlying t=some (.map k e))(ty:TypeId):(Builtin.len_ #[t] ty #[.map (some r)]).run P w=.ok (.int .i64 l.length) w:=by
 obtain⟨es,clock,hb,h2,_⟩:=h;have:es.size=l.length:=by
  have:=congrArg List.length h2;simpa using this
 simp[Builtin.len_,run_underlying ht,MapKept.run_getObj_map hb,this,goInt]
end heap
end
namespace Dk
abbrev Nm:=List UInt8
structure Nd where
 data:List UInt8
 safe:Nat
abbrev Mv:=Nm×Option Nat
structure D where
 now:List (Nm×Nat)
 safe:List (Nm×Nat)
 moves:List (List Mv)
 room:Int
 wait:Nat
 bad:Nat
 ids:List Nat
 node:Nat->Nd
inductive Er where
 | ok
 | num (n:Int)
 | file (n:Int) (name:Nm)
 deriving DecidableEq
def Er.code:Er->Int
 | .ok=>0
 | .num n=>n
 | .file n _=>n
def Er.name:Er->Nm
 | .file _ s=>s
 | _=>[]
def D5(m:List (Nm×Nat))(l:List Mv):List (Nm×Nat):=l.foldl (fun m x=>match x.2 with|none=>a3k m x.1|some f=>a1d m x.1 f) m
theorem a4E(m:List (Nm×Nat))(l:List Mv)(x:Mv):D5 m (l++[x])=match x.2 with|none=>a3k (D5 m l) x.1|some f=>a1d (D5 m l) x.1 f:=by
 simp[D5]
def D.fails(d:D):Bool×D:=if 0<d.wait then(false,{d with wait:=d.wait - 1}) else if 0<d.bad then(true,{d with bad:=d.bad - 1}) else(false,d)
def D.find(d:D)(name:Nm):Option Nat×Er×D:=
 if d.fails.1=true then(none,.file 9 name,d.fails.2) else match F5 d.now name with
  | none=>(none,.file 11 name,d.fails.2)
  | some x=>(some x,.ok,d.fails.2)
def D.mv(d:D)(l:List Mv):D:={d with now:=D5 d.now l,moves:=d.moves++[l]}
def upd(f:Nat->Nd)(x:Nat)(y:Nd):Nat->Nd:=fun i=>if i=x then y else f i
def D.setNode(d:D)(x:Nat)(y:Nd):D:={d with node:=upd d.node x y}
def D.create(d:D)(name:Nm)(x:Nat):Er×D:=
 if d.fails.1=true then(.file 9 name,d.fails.2) else if (F5 d.fails.2.now name).isSome=true then(.file 12 name,d.fails.2)
 else(.ok,({d.fails.2 with ids:=d.fails.2.ids++[x],node:=upd d.fails.2.node x ⟨[],0⟩}:D).mv [(name,some x)])
def D.used(d:D):Nat:=(d.now.map fun p=>(d.node p.2).data.length).sum
def D.append(d:D)(name:Nm)(b:List UInt8):Er×D:=
 match d.find name with
 | (none,e,d)=>(e,d)
 | (some x,_,d)=>if d.room - d.used<b.length then(.file 10 name,d) else(.ok,d.setNode x {d.node x with data:=(d.node x).data++b})
def D.size(d:D)(name:Nm):Int×Er×D:=
 match d.find name with
 | (none,e,d)=>(0,e,d)
 | (some x,_,d)=>((d.node x).data.length,.ok,d)
def part(l:List UInt8)(at_ n:Int):List UInt8:=(l.drop (min at_.toNat l.length)).take (min n.toNat (l.length - min at_.toNat l.length))
def D.readAt(d:D)(name:Nm)(at_ n:Int):List UInt8×Er×D:=
 match d.find name with
 | (none,e,d)=>([],e,d)
 | (some x,_,d)=>(part (d.node x).data at_ n,.ok,d)
def D.sync(d:D)(name:Nm):Er×D:=
 match d.find name with
 | (none,e,d)=>(e,d)
 | (some x,_,d)=>(.ok,d.setNode x {d.node x with safe:=(d.node x).data.length})
def D.rename(d:D)(src dst:Nm):Er×D:=
 match d.find src with
 | (none,e,d)=>(e,d)
 | (some x,_,d)=>(.ok,if src=dst then d else d.mv [(dst,some x),(src,none)])
def D.remove(d:D)(name:Nm):Er×D:=
 match d.find name with
 | (none,e,d)=>(e,d)
 | (some _,_,d)=>(.ok,d.mv [(name,none)])
def D.syncDir(d:D):Er×D:=
 if d.fails.1=true then(.file 9 [],d.fails.2) else(.ok,{d.fails.2 with safe:=d.moves.foldl D5 d.safe,moves:=[]})
structure D.Wf(d:D):Prop where
 now:∀p∈d.now,p.2∈d.ids
 safe:∀p∈d.safe,p.2∈d.ids
 moves:∀l∈d.moves,∀x∈l,∀f,x.2=some f->f∈d.ids
 part:∀x∈d.ids,(d.node x).safe<=(d.node x).data.length
 ids:d.ids.Nodup
theorem a0Y{m:List (Nm×Nat)}{l:List Mv}{p:Nm×Nat}(h:p∈D5 m l):p∈m\/∃x∈l,x.2=some p.2:=by
 induction l generalizing m with
 | nil=>exact .inl h
 | cons x l ih=>
  rcases ih (m:=match x.2 with|none=>a3k m x.1|some f=>a1d m x.1 f) h with h|⟨y,hy,e⟩
  ·cases hx:x.2 with
   | none=>rw[hx] at h;exact .inl (b9d h)
   | some f=>
    rw[hx] at h;rcases a5s h with rfl|h
    ·exact .inr ⟨x,by simp,hx⟩
    ·exact .inl h
  ·exact .inr ⟨y,by simp[hy],e⟩
theorem D.fails_now(d:D):d.fails.2.now=d.now/\d.fails.2.safe=d.safe/\d.fails.2.moves=d.moves/\d.fails.2.room=d.room/\d.fails.2.ids=d.ids/\d.fails.2.node=d.node:=by
 unfold D.fails;split
 ·exact⟨rfl,rfl,rfl,rfl,rfl,rfl⟩
 ·split<;>exact⟨rfl,rfl,rfl,rfl,rfl,rfl⟩
theorem D.setNode_wf{d:D}(h:d.Wf){x:Nat}{y:Nd}(hy:y.safe<=y.data.length):(d.setNode x y).Wf:=by
 refine⟨h.now,h.safe,h.moves,fun z hz=>?_,h.ids⟩;show((upd d.node x y) z).safe<=((upd d.node x y) z).data.length;unfold upd;split
 ·exact hy
 ·exact h.part z hz
end Dk
section
open Go.RowKit Go.Lib Go.Maps
section
variable{α β:Type}{P:Program}{k:TypeId}{kf:α->Value}{vf:β->Value}{w:World}{r i:Nat}{l vis:List (α×β)}
theorem nodup_lt_length:∀(n:Nat)(js:List Nat),js.Nodup->(∀j∈js,j<n)->js.length<=n:=by
 intro n
 induction n with
 | zero=>
  intro js _ h
  cases js with
  | nil=>simp
  | cons j js=>exact absurd (h j (by simp)) (by omega)
 | succ n ih=>
  intro js hn h;by_cases hm:n∈js
  ·have h1:=ih (js.erase n) (hn.erase n) (fun j hj=>by
    have h2:=(List.Nodup.mem_erase_iff hn).1 hj;have:=h j h2.2;have:=h2.1;omega)
   rw[List.length_erase_of_mem hm] at h1;omega
  ·have:=ih js hn (fun j hj=>by
    have:=h j hj;have:j≠n:=fun e=>hm (e▸hj);omega)
   omega
def P9(P:Program)(k:TypeId)(kf:α->Value)(vf:β->Value)(w:World)(i r:Nat)(l vis:List (α×β)):Prop:=
 ∃(es:Array MapEntry)(clock:Nat)(seen:Array Nat)(js:List Nat),w.heap[r]?=some (.map es clock)/\w.heap[i]?=some (.mapIter (some r) clock seen clock)/\
  es.toList.map (fun e=>(e.key,e.val))=l.map (fun p=>(kf p.1,vf p.2))/\(∀e∈es.toList,e.born<clock)/\(es.toList.map (·.born)).Nodup/\
  js.Nodup/\(∀j∈js,j<es.size)/\seen.toList=js.map (fun j=>(es[j]?.map (·.born)).getD 0)/\vis.map some=js.map (fun j=>l[j]?)
theorem P9.lt(h:P9 P k kf vf w i r l vis):i<w.heap.size/\r<w.heap.size/\i≠r:=by
 obtain⟨es,clock,seen,js,h1,h2,_⟩:=h;refine⟨?_,?_,?_⟩
 ·rcases Nat.lt_or_ge i w.heap.size with h|h
  ·exact h
  ·rw[Array.getElem?_eq_none h] at h2;cases h2
 ·rcases Nat.lt_or_ge r w.heap.size with h|h
  ·exact h
  ·rw[Array.getElem?_eq_none h] at h1;cases h1
 ·rintro rfl;rw[h1] at h2;injection h2 with h2;cases h2
theorem P9.block{w':World}(h:P9 P k kf vf w i r l vis)(hi:w'.heap[i]?=w.heap[i]?)(hr:w'.heap[r]?=w.heap[r]?):P9 P k kf vf w' i r l vis:=by
 obtain⟨es,clock,seen,js,h1,h2,h3⟩:=h;exact⟨es,clock,seen,js,hr.trans h1,hi.trans h2,h3⟩
theorem P9.length(h:P9 P k kf vf w i r l vis):vis.length<=l.length:=by
 obtain⟨es,clock,seen,js,h1,h2,h3,h4,h5,h6,h7,h8,h9⟩:=h;have e1:vis.length=js.length:=by simpa using congrArg List.length h9
 have e2:es.size=l.length:=by simpa using congrArg List.length h3
 rw[e1,<-e2];exact nodup_lt_length _ _ h6 h7
theorem P9.nodup(h:P9 P k kf vf w i r l vis)(hn:(l.map (·.1)).Nodup):(vis.map (·.1)).Nodup:=by
 obtain⟨es,clock,seen,js,h1,h2,h3,h4,h5,h6,h7,h8,h9⟩:=h;have esz:es.size=l.length:=by simpa using congrArg List.length h3
 have e:(vis.map (·.1)).map some=js.map (fun j=>(l.map (·.1))[j]?):=by
  have:=congrArg (List.map (Option.map Prod.fst)) h9;rw[List.map_map,List.map_map] at this;rw[List.map_map];refine Eq.trans ?_ (this.trans ?_)
  ·exact List.map_congr_left fun p _=>rfl
  ·exact List.map_congr_left fun j _=>by simp
 have hj:(js.map (fun j=>(l.map (·.1))[j]?)).Nodup:=by
  unfold List.Nodup at h6⊢;rw[List.pairwise_map];refine h6.imp_of_mem fun{a b}ha hb hab hc=>hab ?_;have h1:=h7 a ha;exact(List.getElem?_inj (by simp;omega) hn).1 hc
 rw[<-e] at hj;unfold List.Nodup at hj⊢;rw[List.pairwise_map] at hj;exact hj.imp fun hab hc=>hab (by rw[hc])
theorem P9.mem(h:P9 P k kf vf w i r l vis):∀p∈vis,p∈l:=by
 obtain⟨es,clock,seen,js,h1,h2,h3,h4,h5,h6,h7,h8,h9⟩:=h;intro p hp;have:some p∈js.map (fun j=>l[j]?):=by rw[<-h9];exact List.mem_map.2 ⟨p,hp,rfl⟩
 obtain⟨j,_,hj⟩:=List.mem_map.1 this;exact List.mem_of_getElem? hj
def b1D(w:World)(i:Nat):Nat:=match w.heap[i]? with|some (.mapIter _ _ seen _)=>seen.size|_=>0
theorem P9.seen(h:P9 P k kf vf w i r l vis):b1D w i=vis.length:=by
 obtain⟨es,clock,seen,js,h1,h2,h3,h4,h5,h6,h7,h8,h9⟩:=h;have e1:vis.length=js.length:=by simpa using congrArg List.length h9
 have e2:seen.size=js.length:=by rw[<-Array.length_toList,h8,List.length_map]
 unfold b1D;rw[h2,e1];exact e2
theorem MapOf.range(h:MapOf P k kf vf w r l){t e:TypeId}(ht:P.underlying t=some (.map k e)):
 ∃w',(Instr.range t (.map (some r))).run P w=.ok (.pointer (some ⟨w.heap.size,0,none⟩)) w'/\P9 P k kf vf w' w.heap.size r l []/\Ext w w'/\w'.heap.size=w.heap.size+1:=by
 have hlt:=h.lt;obtain⟨es,clock,hb,h2,h3,h4,h5,h6⟩:=h;refine⟨_,run_range_map w t k e r es clock ht hb,?_,(Ext.refl w).new _,by simp⟩;exact⟨es,clock,#[],[],by rw[heap_alloc_old w _ hlt];exact hb,heap_alloc_new w _,h2,h3,h4,List.nodup_nil,by simp,rfl,rfl⟩
theorem P9.next(h:P9 P k kf vf w i r l vis)(ty:TypeId):
 (∃p w',(Instr.next (.pointer (some ⟨i,0,none⟩)) false ty).run P w=.ok (.tuple #[.bool true,kf p.1,vf p.2]) w'/\p∈l/\P9 P k kf vf w' i r l (vis++[p])/\Off i w w'/\
   (Instr.entry (.pointer (some ⟨i,0,none⟩))).run P w'=.ok (.tuple #[kf p.1,vf p.2]) w'/\vis.length<l.length) ∨
 ((Instr.next (.pointer (some ⟨i,0,none⟩)) false ty).run P w=.ok (.tuple #[.bool false]) w/\vis.Perm l):=by
 have hl:=h.lt;obtain⟨es,clock,seen,js,h1,h2,h3,h4,h5,h6,h7,h8,h9⟩:=h;have gi:(getObj i).run P w=.ok (.mapIter (some r) clock seen clock) w:=by simp[getObj,Sem.run,h2]
 have gr:(getObj r).run P w=.ok (.map es clock) w:=MapKept.run_getObj_map h1;have htest:(!seen.isEmpty&&!es.isEmpty&&es.all (fun x=>decide (x.born ≥ clock)))=false:=next_test_false seen es clock clock h4 (Nat.le_refl _);have hold:((leftOf es seen).filter fun x=>decide (x.born<clock))=leftOf es seen:=by
  rw[Array.filter_eq_self];intro x hx;have:=h4 x (mem_left (Array.mem_toList_iff.2 hx)).1;simpa using this
 have hnew:((leftOf es seen).filter fun x=>decide (x.born ≥ clock))=#[]:=by
  rw[Array.filter_eq_empty_iff];intro x hx;have:=h4 x (mem_left (Array.mem_toList_iff.2 hx)).1;simp;omega
 have esz:es.size=l.length:=by simpa using congrArg List.length h3
 by_cases h0:(leftOf es seen).size=0
 ·refine .inr ⟨?_,?_⟩
  ·have he:leftOf es seen=#[]:=Array.eq_empty_of_size_eq_zero h0;have he':(es.filter fun e=>!seen.contains e.born)=#[]:=he;simp only[Instr.next,Sem.run_bind,gi,gr,Result.andThen_ok,htest,he'];simp[choose,Sem.run,Question.forced]
  ·have hall:=all_seen es seen h0;have hjs:js.Perm (List.range es.size):=by
    refine(List.perm_ext_iff_of_nodup h6 List.nodup_range).2 fun j=>⟨fun hj=>List.mem_range.2 (h7 j hj),fun hj=>?_⟩;have hj':=List.mem_range.1 hj;have hm:es[j]∈es.toList:=by simp
    have hc:=hall es[j] hm;have hmem:es[j].born∈seen.toList:=by simpa using hc
    rw[h8] at hmem;obtain⟨j',hj1,hj2⟩:=List.mem_map.1 hmem;have hj3:=h7 j' hj1;rw[Array.getElem?_eq_getElem hj3] at hj2;simp only[Option.map_some,Option.getD_some] at hj2;have:j'=j:=by
     have e1:(es.toList.map (·.born))[j']?=some es[j].born:=by simp[hj3,hj2]
     have e2:(es.toList.map (·.born))[j]?=some es[j].born:=by simp[hj']
     exact(List.getElem?_inj (by simpa using hj3) h5).1 (e1.trans e2.symm)
    exact this▸hj1
   have e1:(vis.map some).Perm ((List.range es.size).map fun j=>l[j]?):=by rw[h9];exact hjs.map _
   have e2:(List.range es.size).map (fun j=>l[j]?)=l.map some:=by
    rw[esz];apply List.ext_getElem?;intro j;rw[List.getElem?_map,List.getElem?_map];by_cases hj:j<l.length
    ·rw[List.getElem?_range hj];simp[hj]
    ·rw[List.getElem?_eq_none (by simpa using hj),List.getElem?_eq_none (by omega)];rfl
   rw[e2] at e1;have:=e1.filterMap id;simpa using this
 ·refine .inl ?_;generalize hL:leftOf es seen=L at *;have hL':(es.filter fun e=>!seen.contains e.born)=L:=hL;have hch:∃(j:Nat)(w1:World),j<L.size/\w1.heap=w.heap/\w1.os=w.os/\w1.tape=w.tape/\w1.output=w.output/\(choose (Question.mapNext L.size)).run P w=.ok j w1:=by
   by_cases hf:L.size<=1
   ·exact⟨0,w,by omega,rfl,rfl,rfl,rfl,by simp[choose,Sem.run,Question.forced,hf]⟩
   ·exact⟨_,w.drew,Nat.mod_lt _ (by omega),rfl,rfl,rfl,rfl,by
     simp only[choose,Sem.run,Question.forced,decide_eq_true_eq,hf,if_false,Question.cut];rfl⟩
  obtain⟨j,w1,hj,hh1,hh2,hh3,hh4,hrun⟩:=hch;have hne:L.isEmpty=false:=by simp[Array.isEmpty,h0]
  have hme:L[j]∈(leftOf es seen).toList:=by rw[hL];simp
  obtain⟨hmem,hseen⟩:=mem_left hme;obtain⟨jj,hjj⟩:=List.mem_iff_getElem?.1 hmem;obtain⟨p,hp,hk,hv⟩:=b34 h3 hjj;have hjlt:jj<es.size:=by have:=(List.getElem?_eq_some_iff.1 hjj).1;simpa using this
  have hjj':es[jj]?=some L[j]:=by simpa using hjj
  have hnot:jj∉js:=by
   intro hin;have:L[j].born∈seen.toList:=by
    rw[h8];exact List.mem_map.2 ⟨jj,hin,by rw[hjj'];rfl⟩
   have:seen.contains L[j].born=true:=by simpa using this
   rw[this] at hseen;cases hseen
  have hl1:i<w1.heap.size:=by rw[hh1];exact hl.1
  have hset:∀o':Obj,(setObj i o').run P w1=.ok () {w1 with heap:=w1.heap.setIfInBounds i o'}:=fun o'=>by
   have h2':w1.heap[i]?=some (.mapIter (some r) clock seen clock):=by rw[hh1];exact h2
   simp[setObj,Sem.run,h2']
  have hnextE:(Instr.next (.pointer (some ⟨i,0,none⟩)) false ty).run P w=.ok (.tuple #[.bool true,kf p.1,vf p.2]) {w1 with heap:=w1.heap.setIfInBounds i (.mapIter (some r) clock (seen.push L[j].born) clock)}:=by
   simp only[Instr.next,Sem.run_bind,gi,gr,Result.andThen_ok,htest,hL',hold,hnew,hne,Bool.false_eq_true,if_false,Array.append_empty,Array.empty_append,Array.size_map,hrun,Array.getElem?_map,Array.getElem?_eq_getElem hj,Option.map_some,hset];rw[<-hk,<-hv];rfl
  have hgi':({w1 with heap:=w1.heap.setIfInBounds i (.mapIter (some r) clock (seen.push L[j].born) clock)}:World).heap[i]?=some (.mapIter (some r) clock (seen.push L[j].born) clock):=a5t hl1 _;have hgr':({w1 with heap:=w1.heap.setIfInBounds i (.mapIter (some r) clock (seen.push L[j].born) clock)}:World).heap[r]?=some (.map es clock):=by
   show(w1.heap.setIfInBounds i _)[r]?=_;rw[Array.getElem?_setIfInBounds_ne hl.2.2,hh1];exact h1
  have hlen:vis.length<l.length:=by
   have e1:vis.length=js.length:=by simpa using congrArg List.length h9
   have:=nodup_lt_length es.size (js++[jj]) (by
    rw[List.nodup_append];exact⟨h6,by simp,fun a ha b hb=>by simp at hb;subst hb;exact fun e=>hnot (e▸ha)⟩) (by
    intro a ha;rcases List.mem_append.1 ha with h|h
    ·exact h7 a h
    ·simp at h;subst h;exact hjlt)
   simp at this;omega
  refine⟨p,_,hnextE,List.mem_of_getElem? hp,?_,?_,?_,hlen⟩
  ·refine⟨es,clock,seen.push L[j].born,js++[jj],hgr',hgi',h3,h4,h5,?_,?_,?_,?_⟩
   ·rw[List.nodup_append];exact⟨h6,by simp,fun a ha b hb=>by simp at hb;subst hb;exact fun e=>hnot (e▸ha)⟩
   ·intro a ha;rcases List.mem_append.1 ha with h|h
    ·exact h7 a h
    ·simp at h;subst h;exact hjlt
   ·rw[Array.toList_push,h8,List.map_append,List.map_cons,List.map_nil,hjj'];rfl
   ·rw[List.map_append,List.map_append,h9];simp[hp]
  ·refine⟨hh2,hh3,hh4,by simp[hh1],fun q hq=>?_⟩;show(w1.heap.setIfInBounds i _)[q]?=_;rw[Array.getElem?_setIfInBounds_ne (Ne.symm hq),hh1]
  ·have hfind:es.find? (fun e=>e.born==L[j].born)=some L[j]:=by
    have:=find_born L[j] es.toList h5 hmem;simpa using this
   simp only[Instr.entry,getObj,Sem.run_bind,Sem.run,hgi',hgr',Result.andThen,Array.back?_push,bne_self_eq_false,Bool.false_eq_true,if_false,hfind];rw[<-hk,<-hv];rfl
end
end
end Go.Proofs.YtgpbhjjajpbeeaaGreatDoor
