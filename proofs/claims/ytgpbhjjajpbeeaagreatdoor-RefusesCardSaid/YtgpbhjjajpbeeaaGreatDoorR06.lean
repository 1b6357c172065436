/- A part of what the last file proves. -/
import Derived.Test.YtgpbhjjajpbeeaaGreatDoorR05
import Derived.BigRegion
set_option linter.all false
set_option maxRecDepth 100000
set_option maxHeartbeats 2000000
namespace Go.Proofs.YtgpbhjjajpbeeaaGreatDoor
section
open Go.RowKit Go.Lib Pl
theorem V7(v:Value)(l:List UInt8)(w:World)(h:Bytes w v l)(hl:l.length<=8):
 Calls Tryz.prog 75 #[v] w fun e w'=>e=.returned (.int .u64 (num l))/\w=w':=by
 obtain⟨a,cap,rfl,hc,hc',hcell⟩:=h.open;go_enter Tryz.func75,Tryz.ntmps75
 go_wp2;go_loop [3,4] (fun c i=>∃k:Nat,k<=l.length/\i=.int .i64 k/\c=.int .u64 (num (l.take k))) (fun _ i=>l.length - (intOf i).toNat)
 case atStart=>exact⟨0,Nat.zero_le _,rfl,rfl⟩
 case round=>
  obtain⟨k,hk,rfl,rfl⟩:=hrel;by_cases hlt:k<l.length
  ·obtain⟨b,rfl,hb⟩:=hcell k hlt;have hs:Hid (num (l.take (k+1))=num (l.take k)*256+l[k].toNat):=by
    have e:num (l.take (k+1))=num (l.take k)*256+l[k].toNat:=by rw[take_snoc l k hlt,a8L]
    exact e
   have hC:num (l.take k)<256^7:=Nat.lt_of_lt_of_le (b1y _) (Nat.pow_le_pow_right (by omega) (by rw[List.length_take];omega));clear hcell;generalize num (l.take k)=C at *;have hx:=b0t l[k];generalize l[k]=x at *;have hC':C<72057594037927936:=hC;clear hC;go_wp2;go_round
   case rel=>
    refine⟨k+1,by omega,by go_num,?_⟩;rw[hs.out];go_num
   case measure=>simp[intOf];omega
  ·go_wp2;go_ret;obtain rfl:k=l.length:=by omega
   exact⟨by rw[List.take_length];rfl,rfl⟩
theorem X5(v:Value)(B:Nat)(l:List UInt8)(n k:Nat)(w:World)(h:OwnB w B v l)(hk:k<=8)(hl:l.length<=1000000)(hB:B<=w.heap.size):
 Calls Tryz.prog 89 #[v,.int .u64 n,.int .i64 k] w (c38 B (l++be n k) w):=by
 obtain⟨i0,hi,hz0,hz1,hz2⟩:=info_parts a4m;have hk0:IntKind.i64.wrap ((k:Int) - 1)=(k:Int) - 1:=IntWalk.i64_in _ (by omega);go_enter Tryz.func89,Tryz.ntmps89
 go_wp2;go_loopw [0,7] (fun u c wr=>∃j:Nat,j<=k/\c=.int .i64 ((j:Int) - 1)/\(∃l',l'++be n j=l++be n k/\OwnB wr B u l')/\Below B w wr) (fun _ c _=>(intOf c+1).toNat)
 case atStart=>exact⟨k,Nat.le_refl _,rfl,⟨l,rfl,h⟩,Below.refl _ _⟩
 case round=>
  obtain⟨j,hj,rfl,⟨l',hl',hown⟩,hb⟩:=hrel;by_cases hj0:0<j
  ·obtain⟨j,rfl⟩:∃i,j=i+1:=⟨j - 1,by omega⟩;rw[show((j+1:Nat):Int) - 1=(j:Int) from by omega];have hw1:IntKind.i64.wrap (8*(j:Int))=8*(j:Int):=IntWalk.i64_in _ (by omega);have hw2:(0:Int)<=8*(j:Int):=by omega
   have hlen:l'.length<=1000008:=by
    have:=congrArg List.length hl';simp only[List.length_append,I4] at this;omega
   have hsz:=hb.size;go_wp2_with (at_builtin;go_must (refine wpList_append_lies _ rfl _ _ _ rfl B 5 i0 _ 1 1 Tryz.underlying25 hi hz0 hz1 hz2 rfl (by omega) _ l'.length (l'.map byteV) rfl (hown.alloc _) ⟨wr.heap.size,0,none⟩ 1 1 [_] rfl rfl (World.news_of_block (cs:=#[_]) (t:=5) (fr:=(0,0)) (heap_alloc_new wr _)) (by simp[Value.oneCell']) (by omega) (by unfold maxLen;omega) (by omega) (by simp;omega) (wr.heap.size+1) (by simp) ?_);intro gg cap w1 hown1 hgrow hat hlt1)
   go_roundw
   case rel=>
    refine⟨j,by omega,rfl,⟨l'++[UInt8.ofNat (n/256^j)],by rw[List.append_assoc];exact hl',?_⟩,?_⟩
    ·rw[b91] at hown1;unfold OwnB;rw[List.length_append,List.map_append];exact hown1
    ·exact(hb.alloc (by omega) _).grown hgrow (by simp;omega) (fun k hk=>(hown.lt k hk).1)
   case measure=>simp[intOf]
  ·obtain rfl:j=0:=by omega
   go_wp2;go_ret;simp only[be,List.append_nil] at hl';subst hl';exact⟨_,rfl,hown,hb⟩
end
section
open Go.RowKit Go.Lib Pl
def a7E(seq:Nat)(k v:ByteArray)(d:Bool)(size:Int):Value:=.agg #[.int .u64 seq,.string k,.string v,.bool d,.int .i64 size]
def c0d(n:Int)(w:World)(e:Ending)(w':World):Prop:=e=.returned (.tuple #[.slice none 0 0,.int .i64 n])/\Ext w w'
def b4I(l:List UInt8)(w:World)(e:Ending)(w':World):Prop:=∃v,e=.returned (.tuple #[v,.int .i64 0])/\OwnB w' w.heap.size v l/\Ext w w'
theorem a6A(w:World)(x:Value)(t:TypeId):a0k (w.alloc (.cells #[x] t)) (.slice (some ⟨w.heap.size,0,none⟩) 1 1) 1 [x]:=
 ⟨_,_,rfl,Nat.le_refl _,⟨by omega,fun h=>by cases h⟩,fun _=>⟨_,rfl,fun i y hy=>World.news_of_block (cs:=#[x]) (t:=t) (fr:=(0,0)) (heap_alloc_new w _) i y hy⟩⟩
theorem a9y(seq:Nat)(k v:ByteArray)(d:Bool)(sz:Int)(w:World)(h:k.size<1\/16<k.size):
 Calls Tryz.prog 49 #[a7E seq k v d sz] w (c0d 1 w):=by
 unfold a7E;rcases h with h|h
 ·have h0:((k.size:Int)==0)=true:=beq_iff_eq.2 (by omega);go_enter Tryz.func49,Tryz.ntmps49
  go_wp2;go_ret2
  exact⟨rfl,Below.alloc (Below.refl _ _) (Nat.le_refl _) _⟩
 ·have h0:((k.size:Int)==0)=false:=beq_eq_false_iff_ne.2 (by omega);go_enter Tryz.func49,Tryz.ntmps49
  go_wp2;go_ret2
  exact⟨rfl,Below.alloc (Below.refl _ _) (Nat.le_refl _) _⟩
theorem a9z(seq:Nat)(k v:ByteArray)(d:Bool)(sz:Int)(w:World)(h1:1<=k.size)(h2:k.size<=16)(h:64<v.size\/(v.size<=64/\d=true/\0<v.size)):
 Calls Tryz.prog 49 #[a7E seq k v d sz] w (c0d 2 w):=by
 unfold a7E;have h0:((k.size:Int)==0)=false:=beq_eq_false_iff_ne.2 (by omega);have h'':¬16<k.size:=by omega
 rcases h with h|⟨h,rfl,hv⟩
 ·go_enter Tryz.func49,Tryz.ntmps49
  go_wp2;go_ret2
  exact⟨rfl,Below.alloc (Below.refl _ _) (Nat.le_refl _) _⟩
 ·have hv':v.toList.isEmpty=false:=by rw[a5v];exact decide_eq_false (by omega)
  go_enter Tryz.func49,Tryz.ntmps49
  go_wp2;go_ret2
  exact⟨rfl,Below.alloc (Below.refl _ _) (Nat.le_refl _) _⟩
theorem b1E(seq:Nat)(k v:ByteArray)(d:Bool)(sz:Int)(w:World)(h1:1<=k.size)(h2:k.size<=16)(hv:v.size<=64)(h:d=false\/v.size=0):
 Calls Tryz.prog 49 #[a7E seq k v d sz] w (b4I (summed (body seq k.data.toList v.data.toList d)) w):=by
 unfold a7E;obtain⟨i0,hi,hz0,hz1,hz2⟩:=info_parts a4m;have h0:((k.size:Int)==0)=false:=beq_eq_false_iff_ne.2 (by omega);have h'':¬16<k.size:=by omega
 have h3:¬64<v.size:=by omega
 have hwk:IntKind.u64.wrap (k.size:Int)=(k.size:Int):=by rw[IntKind.wrap_u64];omega
 have hwv:IntKind.u64.wrap (v.size:Int)=(v.size:Int):=by rw[IntKind.wrap_u64];omega
 rcases Bool.eq_false_or_eq_true d with rfl|rfl
 ·have hv':v.toList.isEmpty=true:=by rw[a5v];exact decide_eq_true (by simpa using h)
  go_enter Tryz.func49,Tryz.ntmps49
  go_wp2_with fail
  have hx:o7 (w.alloc (.cells #[.int .u64 seq,.string k,.string v,.bool true,.int .i64 sz] 116)) w.heap.size 116 #[.int .u64 seq,.string k,.string v,.bool true,.int .i64 sz]:=heap_alloc_new w _;have hb:Below (w.heap.size+1) (w.alloc (.cells #[.int .u64 seq,.string k,.string v,.bool true,.int .i64 sz] 116)) (w.alloc (.cells #[.int .u64 seq,.string k,.string v,.bool true,.int .i64 sz] 116)):=Below.refl _ _;have hs:w.heap.size+1<=(w.alloc (.cells #[.int .u64 seq,.string k,.string v,.bool true,.int .i64 sz] 116)).heap.size:=by simp
  refine(X5 _ (w.heap.size+1) ([]) (seq) 8 _ (World.ownsRow_nil _ _ _ _) (by omega) (by simp[I4,J3]<;>omega) hs).mono ?_;rintro e w2 ⟨v2,rfl,hown,hbn⟩;replace hx:=hx.below hbn (by omega);replace hs:=Nat.le_trans hs hbn.size;replace hb:=hb.trans hbn;clear hbn;have hcw23:w2.cell? ⟨w.heap.size,3,none⟩=some (.bool true):=hx.cell 3;rw[List.nil_append] at hown;have hs2:w.heap.size+1<=w2.heap.size:=hs;have e3:(be seq 8++be 1 1).map byteV=(be seq 8).map byteV++[.int .u8 1]:=by rw[List.map_append];rfl
  have e3':(be seq 8++be 1 1).length=(be seq 8).length+1:=by simp[I4]
  have E3:=Lib.hid e3;clear e3;have E3':=Lib.hid e3';clear e3';go_wp2_with (at_builtin;go_must (refine H5 rfl _ _ 25 rfl (w.heap.size+1) 5 i0 (.int .u8 0) 1 1 Tryz.underlying25 hi hz0 hz1 hz2 rfl (by omega) v2 _ _ rfl (hown.alloc _) _ 1 [.int .u8 1] rfl (a6A w2 _ _) rfl (by simp[Value.oneCell']) (by simp[I4,maxLen]) (by simp[I4]) (by simp;omega) ?_);intro b3 c3 w3 hown3 hgrow3 hat3;clear hat3;have hx3:=(hx.alloc (.cells #[.int .u8 1] 5)).grown hgrow3 (fun k hk=>by have:=(hown.lt k hk).1;omega);have hc31:w3.cell? ⟨w.heap.size,1,none⟩=some (.string k):=hx3.cell 1)
  replace hb:=(hb.alloc hs (.cells #[.int .u8 1] 5)).grown hgrow3 (by simp;omega) (fun k hk=>(hown.lt k hk).1);replace hs:w.heap.size+1<=w3.heap.size:=by have:=hgrow3.size;simp at this;omega
  clear hx hown hs2;have hx:=hx3;have hown:OwnB w3 (w.heap.size+1) (.slice b3 ((be seq 8).length+1) c3) (be seq 8++be 1 1):=by
   unfold OwnB;rw[E3.out,E3'.out];exact hown3
  clear hown3 hgrow3 hx3;refine(X5 _ (w.heap.size+1) (be seq 8++be 1 1) (k.size) 1 _ hown (by omega) (by simp[I4,J3]<;>omega) hs).mono ?_;rintro e w4 ⟨v4,rfl,hown,hbn⟩;replace hx:=hx.below hbn (by omega);replace hs:=Nat.le_trans hs hbn.size;replace hb:=hb.trans hbn;clear hbn;have hcw42:w4.cell? ⟨w.heap.size,2,none⟩=some (.string v):=hx.cell 2;go_wp2_with fail
  refine(X5 _ (w.heap.size+1) (be seq 8++be 1 1++be k.size 1) (v.size) 2 _ hown (by omega) (by simp[I4,J3]<;>omega) hs).mono ?_;rintro e w5 ⟨v5,rfl,hown,hbn⟩;replace hx:=hx.below hbn (by omega);replace hs:=Nat.le_trans hs hbn.size;replace hb:=hb.trans hbn;clear hbn;have hcw51:w5.cell? ⟨w.heap.size,1,none⟩=some (.string k):=hx.cell 1;generalize hL:be seq 8++be 1 1++be k.size 1++be v.size 2=L5 at *;have hLl:L5.length=12:=by rw[<-hL];simp[I4]
  have HL:=Lib.hid hL;clear hL;have HLl:=Lib.hid hLl;clear hLl;go_wp2_with (first|(at_builtin;refine wpList_append_text rfl _ _ 25 9 rfl (w.heap.size+1) 5 i0 Tryz.underlying25 Tryz.underlying9 hi hz0 hz1 hz2 v5 L5 rfl hown k rfl (by rw[HLl.out];unfold maxLen;omega) (by rw[HLl.out];omega) hs ?_;intro b6 c6 w6 hown6 hgrow6;have hx6:=hx.grown hgrow6 (fun k hk=>by have:=(hown.lt k hk).1;omega);have hc62:w6.cell? ⟨w.heap.size,2,none⟩=some (.string v):=hx6.cell 2;have hs6:w.heap.size+1<=w6.heap.size:=Nat.le_trans hs hgrow6.size)|(at_builtin;refine wpList_append_text rfl _ _ 25 9 rfl (w.heap.size+1) 5 i0 Tryz.underlying25 Tryz.underlying9 hi hz0 hz1 hz2 (.slice b6 (L5.length+k.size) c6) (L5++k.data.toList) rfl hown6 v rfl (by rw[List.length_append,J3,HLl.out];unfold maxLen;omega) (by rw[List.length_append,J3,HLl.out];omega) hs6 ?_;intro b7 c7 w7 hown7 hgrow7))
  replace hb:=(hb.grown hgrow6 hs (fun k hk=>(hown.lt k hk).1)).grown hgrow7 hs6 (fun k hk=>(hown6.lt k hk).1);have hs7:w.heap.size+1<=w7.heap.size:=Nat.le_trans hs6 hgrow7.size;have hI:OwnB w7 (w.heap.size+1) (.slice b7 (L5.length+k.size+v.size) c7) (body seq k.data.toList v.data.toList true):=by
   rw[show(L5++k.data.toList).length=L5.length+k.size by rw[List.length_append,J3]] at hown7;rw[show L5++k.data.toList++v.data.toList=body seq k.data.toList v.data.toList true by rw[<-HL.out];simp[body,J3]] at hown7;exact hown7
  have hIl:(body seq k.data.toList v.data.toList true).length<=92:=by simp[body,I4,J3];omega
  clear hown7 hgrow7 hown6 hgrow6 hx hx6 hc62 hs6 hs;generalize Value.slice b7 (L5.length+k.size+v.size) c7=v7 at *;generalize body seq k.data.toList v.data.toList true=I at *;refine(a2h v7 I w7 hI.bytes).mono ?_;rintro e w8 ⟨rfl,rfl⟩;have hwc:IntKind.u64.wrap ((crc I:Nat):Int)=((crc I:Nat):Int):=by rw[IntKind.wrap_u64];have:=a4a I;omega
  go_wp2_with fail
  refine(X5 _ w7.heap.size [] (crc I) 4 _ (World.ownsRow_nil _ _ _ _) (by omega) (by simp) (Nat.le_refl _)).mono ?_;rintro e w9 ⟨v9,rfl,hown9,hb9⟩;rw[List.nil_append] at hown9;generalize hC:be (crc I) 4=C at *;have hCl:C.length=4:=by rw[<-hC,I4]
  have HC:=Lib.hid hC;clear hC;have HCl:=Lib.hid hCl;clear hCl;clear hwc;go_wp2_with (at_builtin;go_must (refine H5 rfl _ _ 25 rfl w7.heap.size 5 i0 (.int .u8 0) 1 1 Tryz.underlying25 hi hz0 hz1 hz2 rfl (by omega) v9 C.length _ rfl hown9 v7 I.length (I.map byteV) rfl (hI.bytes.ext hb9) (by simp) (a0O _) (by rw[HCl.out];unfold maxLen;omega) (by rw[HCl.out];omega) hb9.size ?_);intro b10 c10 w10 hown10 hgrow10 hat10;clear hat10)
  go_ret2
  refine⟨_,rfl,?_,?_⟩
  ·unfold OwnB;have e1:(summed I).map byteV=C.map byteV++I.map byteV:=by rw[<-List.map_append,summed,HC.out]
   have e2:(summed I).length=C.length+I.length:=by rw[summed,HC.out,List.length_append]
   rw[e1,e2];exact O8 hown10 (by omega)
  ·have h9:Below (w.heap.size+1) w7 w10:=(hb9.mono hs7).grown hgrow10 (Nat.le_trans hs7 hb9.size) (fun k hk=>by have:=(hown9.lt k hk).1;omega);exact(Below.alloc (Below.refl _ _) (Nat.le_refl _) _).trans ((hb.trans h9).mono (by omega))
 ·go_enter Tryz.func49,Tryz.ntmps49
  go_wp2_with fail
  have hx:o7 (w.alloc (.cells #[.int .u64 seq,.string k,.string v,.bool false,.int .i64 sz] 116)) w.heap.size 116 #[.int .u64 seq,.string k,.string v,.bool false,.int .i64 sz]:=heap_alloc_new w _;have hb:Below (w.heap.size+1) (w.alloc (.cells #[.int .u64 seq,.string k,.string v,.bool false,.int .i64 sz] 116)) (w.alloc (.cells #[.int .u64 seq,.string k,.string v,.bool false,.int .i64 sz] 116)):=Below.refl _ _;have hs:w.heap.size+1<=(w.alloc (.cells #[.int .u64 seq,.string k,.string v,.bool false,.int .i64 sz] 116)).heap.size:=by simp
  refine(X5 _ (w.heap.size+1) ([]) (seq) 8 _ (World.ownsRow_nil _ _ _ _) (by omega) (by simp[I4,J3]<;>omega) hs).mono ?_;rintro e w2 ⟨v2,rfl,hown,hbn⟩;replace hx:=hx.below hbn (by omega);replace hs:=Nat.le_trans hs hbn.size;replace hb:=hb.trans hbn;clear hbn;have hcw23:w2.cell? ⟨w.heap.size,3,none⟩=some (.bool false):=hx.cell 3;rw[List.nil_append] at hown;have hs2:w.heap.size+1<=w2.heap.size:=hs;have e3:(be seq 8++be 0 1).map byteV=(be seq 8).map byteV++[.int .u8 0]:=by rw[List.map_append];rfl
  have e3':(be seq 8++be 0 1).length=(be seq 8).length+1:=by simp[I4]
  have E3:=Lib.hid e3;clear e3;have E3':=Lib.hid e3';clear e3';go_wp2_with (at_builtin;go_must (refine H5 rfl _ _ 25 rfl (w.heap.size+1) 5 i0 (.int .u8 0) 1 1 Tryz.underlying25 hi hz0 hz1 hz2 rfl (by omega) v2 _ _ rfl (hown.alloc _) _ 1 [.int .u8 0] rfl (a6A w2 _ _) rfl (by simp[Value.oneCell']) (by simp[I4,maxLen]) (by simp[I4]) (by simp;omega) ?_);intro b3 c3 w3 hown3 hgrow3 hat3;clear hat3;have hx3:=(hx.alloc (.cells #[.int .u8 0] 5)).grown hgrow3 (fun k hk=>by have:=(hown.lt k hk).1;omega);have hc31:w3.cell? ⟨w.heap.size,1,none⟩=some (.string k):=hx3.cell 1)
  replace hb:=(hb.alloc hs (.cells #[.int .u8 0] 5)).grown hgrow3 (by simp;omega) (fun k hk=>(hown.lt k hk).1);replace hs:w.heap.size+1<=w3.heap.size:=by have:=hgrow3.size;simp at this;omega
  clear hx hown hs2;have hx:=hx3;have hown:OwnB w3 (w.heap.size+1) (.slice b3 ((be seq 8).length+1) c3) (be seq 8++be 0 1):=by
   unfold OwnB;rw[E3.out,E3'.out];exact hown3
  clear hown3 hgrow3 hx3;refine(X5 _ (w.heap.size+1) (be seq 8++be 0 1) (k.size) 1 _ hown (by omega) (by simp[I4,J3]<;>omega) hs).mono ?_;rintro e w4 ⟨v4,rfl,hown,hbn⟩;replace hx:=hx.below hbn (by omega);replace hs:=Nat.le_trans hs hbn.size;replace hb:=hb.trans hbn;clear hbn;have hcw42:w4.cell? ⟨w.heap.size,2,none⟩=some (.string v):=hx.cell 2;go_wp2_with fail
  refine(X5 _ (w.heap.size+1) (be seq 8++be 0 1++be k.size 1) (v.size) 2 _ hown (by omega) (by simp[I4,J3]<;>omega) hs).mono ?_;rintro e w5 ⟨v5,rfl,hown,hbn⟩;replace hx:=hx.below hbn (by omega);replace hs:=Nat.le_trans hs hbn.size;replace hb:=hb.trans hbn;clear hbn;have hcw51:w5.cell? ⟨w.heap.size,1,none⟩=some (.string k):=hx.cell 1;generalize hL:be seq 8++be 0 1++be k.size 1++be v.size 2=L5 at *;have hLl:L5.length=12:=by rw[<-hL];simp[I4]
  have HL:=Lib.hid hL;clear hL;have HLl:=Lib.hid hLl;clear hLl;go_wp2_with (first|(at_builtin;refine wpList_append_text rfl _ _ 25 9 rfl (w.heap.size+1) 5 i0 Tryz.underlying25 Tryz.underlying9 hi hz0 hz1 hz2 v5 L5 rfl hown k rfl (by rw[HLl.out];unfold maxLen;omega) (by rw[HLl.out];omega) hs ?_;intro b6 c6 w6 hown6 hgrow6;have hx6:=hx.grown hgrow6 (fun k hk=>by have:=(hown.lt k hk).1;omega);have hc62:w6.cell? ⟨w.heap.size,2,none⟩=some (.string v):=hx6.cell 2;have hs6:w.heap.size+1<=w6.heap.size:=Nat.le_trans hs hgrow6.size)|(at_builtin;refine wpList_append_text rfl _ _ 25 9 rfl (w.heap.size+1) 5 i0 Tryz.underlying25 Tryz.underlying9 hi hz0 hz1 hz2 (.slice b6 (L5.length+k.size) c6) (L5++k.data.toList) rfl hown6 v rfl (by rw[List.length_append,J3,HLl.out];unfold maxLen;omega) (by rw[List.length_append,J3,HLl.out];omega) hs6 ?_;intro b7 c7 w7 hown7 hgrow7))
  replace hb:=(hb.grown hgrow6 hs (fun k hk=>(hown.lt k hk).1)).grown hgrow7 hs6 (fun k hk=>(hown6.lt k hk).1);have hs7:w.heap.size+1<=w7.heap.size:=Nat.le_trans hs6 hgrow7.size;have hI:OwnB w7 (w.heap.size+1) (.slice b7 (L5.length+k.size+v.size) c7) (body seq k.data.toList v.data.toList false):=by
   rw[show(L5++k.data.toList).length=L5.length+k.size by rw[List.length_append,J3]] at hown7;rw[show L5++k.data.toList++v.data.toList=body seq k.data.toList v.data.toList false by rw[<-HL.out];simp[body,J3]] at hown7;exact hown7
  have hIl:(body seq k.data.toList v.data.toList false).length<=92:=by simp[body,I4,J3];omega
  clear hown7 hgrow7 hown6 hgrow6 hx hx6 hc62 hs6 hs;generalize Value.slice b7 (L5.length+k.size+v.size) c7=v7 at *;generalize body seq k.data.toList v.data.toList false=I at *;refine(a2h v7 I w7 hI.bytes).mono ?_;rintro e w8 ⟨rfl,rfl⟩;have hwc:IntKind.u64.wrap ((crc I:Nat):Int)=((crc I:Nat):Int):=by rw[IntKind.wrap_u64];have:=a4a I;omega
  go_wp2_with fail
  refine(X5 _ w7.heap.size [] (crc I) 4 _ (World.ownsRow_nil _ _ _ _) (by omega) (by simp) (Nat.le_refl _)).mono ?_;rintro e w9 ⟨v9,rfl,hown9,hb9⟩;rw[List.nil_append] at hown9;generalize hC:be (crc I) 4=C at *;have hCl:C.length=4:=by rw[<-hC,I4]
  have HC:=Lib.hid hC;clear hC;have HCl:=Lib.hid hCl;clear hCl;clear hwc;go_wp2_with (at_builtin;go_must (refine H5 rfl _ _ 25 rfl w7.heap.size 5 i0 (.int .u8 0) 1 1 Tryz.underlying25 hi hz0 hz1 hz2 rfl (by omega) v9 C.length _ rfl hown9 v7 I.length (I.map byteV) rfl (hI.bytes.ext hb9) (by simp) (a0O _) (by rw[HCl.out];unfold maxLen;omega) (by rw[HCl.out];omega) hb9.size ?_);intro b10 c10 w10 hown10 hgrow10 hat10;clear hat10)
  go_ret2
  refine⟨_,rfl,?_,?_⟩
  ·unfold OwnB;have e1:(summed I).map byteV=C.map byteV++I.map byteV:=by rw[<-List.map_append,summed,HC.out]
   have e2:(summed I).length=C.length+I.length:=by rw[summed,HC.out,List.length_append]
   rw[e1,e2];exact O8 hown10 (by omega)
  ·have h9:Below (w.heap.size+1) w7 w10:=(hb9.mono hs7).grown hgrow10 (Nat.le_trans hs7 hb9.size) (fun k hk=>by have:=(hown9.lt k hk).1;omega);exact(Below.alloc (Below.refl _ _) (Nat.le_refl _) _).trans ((hb.trans h9).mono (by omega))
end
section
open Go.RowKit Go.Lib Pl
def a0l:Value:=.agg #[.int .u64 0,.string ⟨#[]⟩,.string ⟨#[]⟩,.bool false,.int .i64 0]
def N9:Option Rec->Value
 | none=>.tuple #[a0l,.bool false]
 | some r=>.tuple #[.agg #[.int .u64 r.seq,.string ⟨r.key.toArray⟩,.string ⟨r.val.toArray⟩,.bool r.del,.int .i64 r.size],.bool true]
def c0c(r:Option Rec)(w:World)(e:Ending)(w':World):Prop:=e=.returned (N9 r)/\Ext w w'
theorem c1X(b:UInt8):num [b]=b.toNat:=by simp[num]
theorem c3Y{l:List UInt8}{k:Nat}(h:k<l.length):(l.drop k).take 1=[l[k]]:=by
 rw[List.drop_eq_getElem_cons h];rfl
theorem Bytes.at{w:World}{ad:Addr}{cap:Nat}{l:List UInt8}(h:Bytes w (.slice (some ad) l.length cap) l)(k:Nat)(hk:k<l.length):w.cell? (ad.add k)=some (.int .u8 (num ((l.drop k).take 1))):=by
 obtain⟨a',c,hv,h1,h2,h3⟩:=h;injection hv with ha;obtain⟨b,hb,hc⟩:=h3 (by intro e;simp at e;subst e;simp at hk);rw[hb] at ha;injection ha with ha;subst ha;rw[c3Y hk,c1X];exact hc k _ (by rw[List.getElem?_map,List.getElem?_eq_getElem hk];rfl)
theorem a9x(v:Value)(l:List UInt8)(w:World)(h:Bytes w v l):
 Calls Tryz.prog 125 #[v] w (c0c (dec l) w):=by
 have HD:good l=false->dec l=none:=by intro h;unfold dec;rw[h];rfl
 obtain⟨a,cap,rfl,h1,h2,h3⟩:=id h;clear h3;by_cases c0:l.length<16
 ·have hd:dec l=none:=HD (by unfold good;rw[decide_eq_false (by omega)];rfl);clear h;go_enter Tryz.func125,Tryz.ntmps125
  go_wp2;refine bodyPost_ret (v:=N9 none) ?_ rfl ⟨by first|rfl|rw[hd],?_⟩
  ·simp[results,Tryz.results125,go_sem,N9,a0l]
  ·exact((Ext.refl w).new _).new _
 obtain⟨ad,rfl⟩:∃ad,a=some ad:=by
  cases a with
  | none=>have:=h2.2 rfl;omega
  | some ad=>exact⟨ad,rfl⟩
 have hc12:w.cell? ⟨ad.block,ad.off+12,none⟩=some (.int .u8 (P8 l)):=h.at 12 (by omega);have hc13:w.cell? ⟨ad.block,ad.off+13,none⟩=some (.int .u8 (D7 l)):=h.at 13 (by omega);have HB:=Lib.hid h;clear h;have h16:16<=l.length:=by omega
 have hk256:D7 l<256:=O0 (l.drop 13) 1;have hf256:P8 l<256:=O0 (l.drop 12) 1;have hv256:H6 l<65536:=O0 (l.drop 14) 2;have hm1:num (l.take 4)<4294967296:=O0 l 4;have hwk:IntKind.i64.wrap (D7 l:Int)=(D7 l:Int):=IntWalk.i64_in _ (by omega);have hwv:IntKind.i64.wrap (H6 l:Int)=(H6 l:Int):=IntWalk.i64_in _ (by omega);have hsl:∀W:World,Ext w W->∀i j,0<i->i<=j->j<=l.length->i<cap->Bytes W (.slice (some ⟨ad.block,ad.off+i,none⟩) (j - i) (cap - i)) ((l.take j).drop i):=by
  intro W hW i j h0 hij hj hc;have:=(HB.out.ext hW).sliced i j hij hj;rw[if_neg (by omega)] at this;have e:(some ad).map (·.add i)=some ⟨ad.block,ad.off+i,none⟩:=by
   show some (ad.add i)=_;unfold Addr.add;rw[if_neg (by omega)]
  rw[e] at this;exact this
 have HS:=Lib.hid hsl;clear hsl;have hE0:Ext w ((w.alloc (.cells #[.int .u64 0,.string ⟨#[]⟩,.string ⟨#[]⟩,.bool false,.int .i64 0] 116)).alloc (.cells #[.int .u64 0,.string ⟨#[]⟩,.string ⟨#[]⟩,.bool false,.int .i64 0] 116)):=((Ext.refl w).new _).new _;have X:o7 ((w.alloc (.cells #[.int .u64 0,.string ⟨#[]⟩,.string ⟨#[]⟩,.bool false,.int .i64 0] 116)).alloc (.cells #[.int .u64 0,.string ⟨#[]⟩,.string ⟨#[]⟩,.bool false,.int .i64 0] 116)) w.heap.size 116 #[.int .u64 0,.string ⟨#[]⟩,.string ⟨#[]⟩,.bool false,.int .i64 0]:=(o7.new _ _ rfl).alloc _;have Y:o7 ((w.alloc (.cells #[.int .u64 0,.string ⟨#[]⟩,.string ⟨#[]⟩,.bool false,.int .i64 0] 116)).alloc (.cells #[.int .u64 0,.string ⟨#[]⟩,.string ⟨#[]⟩,.bool false,.int .i64 0] 116)) (w.heap.size+1) 116 #[.int .u64 0,.string ⟨#[]⟩,.string ⟨#[]⟩,.bool false,.int .i64 0]:=o7.new _ _ (by simp);have hd12:=hE0.cell hc12;have hd13:=hE0.cell hc13;go_enter Tryz.func125,Tryz.ntmps125
 go_wp2_with fail
 refine(V7 _ ((l.take 16).drop 14) _ (HS.out _ hE0 14 16 (by omega) (by omega) (by omega) (by omega)) (by simp;omega)).mono ?_;rintro e W ⟨rfl,hw⟩;rw[hw] at hE0 X Y hd12 hd13;clear hw;have ev:num ((l.take 16).drop 14)=H6 l:=by unfold H6;rw[List.drop_take]
 rw[ev];clear ev;have yc0:=Y.cell 0;have yc1:=Y.cell 1;have yc2:=Y.cell 2;have yc3:=Y.cell 3;have yc4:=Y.cell 4;have xc0:=X.cell 0;have xf0:=X.free 0;have xc1:=X.cell 1;have xf1:=X.free 1;have xc2:=X.cell 2;have xf2:=X.free 2;have xc3:=X.cell 3;have xf3:=X.free 3;have xc4:=X.cell 4;have xf4:=X.free 4;by_cases c1:l.length<16+D7 l+H6 l
 ·have hd:dec l=none:=HD (by unfold good;rw[decide_eq_false (by omega)];rfl);go_wp2;refine bodyPost_ret (v:=N9 none) ?_ rfl ⟨by first|rfl|rw[hd],?_⟩
  ·simp[results,Tryz.results125,go_sem,N9,a0l,xc0,xc1,xc2,xc3,xc4]
  ·repeat' refine Ext.setN ?_ (by simp)
   exact hE0
 have hcap:16+D7 l+H6 l<=cap:=by omega
 go_wp2_with fail
 refine(a2h _ ((l.take (16+D7 l+H6 l)).drop 4) _ (HS.out _ hE0 4 (16+D7 l+H6 l) (by omega) (by omega) (by omega) (by omega))).mono ?_;rintro e W' ⟨rfl,rfl⟩;have hq:Bytes W (.slice (some ad) 4 cap) (l.take 4):=by
  have:=(HB.out.ext hE0).sliced 0 4 (by omega) (by omega);rw[if_neg (by omega)] at this;exact this
 go_wp2_with fail
 refine(V7 _ (l.take 4) _ hq (by simp;omega)).mono ?_;rintro e W' ⟨rfl,rfl⟩;have hwc:IntKind.u64.wrap (crc ((l.take (16+D7 l+H6 l)).drop 4):Int)=(crc ((l.take (16+D7 l+H6 l)).drop 4):Int):=by
  have:=a4a ((l.take (16+D7 l+H6 l)).drop 4);rw[IntKind.wrap_u64];omega
 by_cases hcr:crc ((l.take (16+D7 l+H6 l)).drop 4)=num (l.take 4)
 case neg=>
  have hcr':((num (l.take 4):Int) != (crc ((l.take (16+D7 l+H6 l)).drop 4):Int))=true:=by rw[bne,beq_eq_false_iff_ne.2 (by omega)];rfl
  have hd:dec l=none:=HD (by unfold good;rw[decide_eq_false hcr];simp);go_wp2;refine bodyPost_ret (v:=N9 none) ?_ rfl ⟨by first|rfl|rw[hd],?_⟩
  ·simp[results,Tryz.results125,go_sem,N9,a0l,xc0,xc1,xc2,xc3,xc4]
  ·repeat' refine Ext.setN ?_ (by simp)
   exact hE0
 have hcr':((num (l.take 4):Int) != (crc ((l.take (16+D7 l+H6 l)).drop 4):Int))=false:=by rw[bne,beq_iff_eq.2 (by omega)];rfl
 by_cases c2:1<P8 l
 ·have hd:dec l=none:=HD (by unfold good;rw[show decide (P8 l<=1)=false from decide_eq_false (by omega)];simp);go_wp2;refine bodyPost_ret (v:=N9 none) ?_ rfl ⟨by first|rfl|rw[hd],?_⟩
  ·simp[results,Tryz.results125,go_sem,N9,a0l,xc0,xc1,xc2,xc3,xc4]
  ·repeat' refine Ext.setN ?_ (by simp)
   exact hE0
 by_cases c3:D7 l<1
 ·have hd:dec l=none:=HD (by unfold good;rw[show decide (1<=D7 l)=false from decide_eq_false (by omega)];simp);have hk0:((D7 l:Int)==0)=true:=beq_iff_eq.2 (by omega);go_wp2;refine bodyPost_ret (v:=N9 none) ?_ rfl ⟨by first|rfl|rw[hd],?_⟩
  ·simp[results,Tryz.results125,go_sem,N9,a0l,xc0,xc1,xc2,xc3,xc4]
  ·repeat' refine Ext.setN ?_ (by simp)
   exact hE0
 have hk0:((D7 l:Int)==0)=false:=beq_eq_false_iff_ne.2 (by omega);by_cases c4:16<D7 l
 ·have hd:dec l=none:=HD (by unfold good;rw[show decide (D7 l<=16)=false from decide_eq_false (by omega)];simp);go_wp2;refine bodyPost_ret (v:=N9 none) ?_ rfl ⟨by first|rfl|rw[hd],?_⟩
  ·simp[results,Tryz.results125,go_sem,N9,a0l,xc0,xc1,xc2,xc3,xc4]
  ·repeat' refine Ext.setN ?_ (by simp)
   exact hE0
 by_cases c5:64<H6 l
 ·have hd:dec l=none:=HD (by unfold good;rw[show decide (H6 l<=64)=false from decide_eq_false (by omega)];simp);go_wp2;refine bodyPost_ret (v:=N9 none) ?_ rfl ⟨by first|rfl|rw[hd],?_⟩
  ·simp[results,Tryz.results125,go_sem,N9,a0l,xc0,xc1,xc2,xc3,xc4]
  ·repeat' refine Ext.setN ?_ (by simp)
   exact hE0
 by_cases c6:P8 l=1/\0<H6 l
 ·have hd:dec l=none:=HD (by unfold good;rw[show decide (P8 l=1)=true from decide_eq_true c6.1,show decide (0<H6 l)=true from decide_eq_true c6.2];simp);have hf1:((P8 l:Int)==1)=true:=beq_iff_eq.2 (by omega);have hv0:=c6.2;go_wp2;refine bodyPost_ret (v:=N9 none) ?_ rfl ⟨by first|rfl|rw[hd],?_⟩
  ·simp[results,Tryz.results125,go_sem,N9,a0l,xc0,xc1,xc2,xc3,xc4]
  ·repeat' refine Ext.setN ?_ (by simp)
   exact hE0
 by_cases hf:P8 l=1
 ·have hv0:¬0<H6 l:=fun h=>c6 ⟨hf,h⟩;have hf1:((P8 l:Int)==1)=true:=beq_iff_eq.2 (by omega);have hdec:dec l=some ⟨num ((l.drop 4).take 8),(l.drop 16).take (D7 l),(l.drop (16+D7 l)).take (H6 l),true,16+D7 l+H6 l⟩:=by
   unfold dec;rw[if_pos (by unfold good;rw[decide_eq_true (show 16+D7 l+H6 l<=l.length by omega),decide_eq_true hcr,decide_eq_true (show P8 l<=1 by omega),decide_eq_true (show 1<=D7 l by omega),decide_eq_true (show D7 l<=16 by omega),decide_eq_true (show H6 l<=64 by omega),decide_eq_false (show ¬0<H6 l by omega),Bool.and_false];rfl)];simp[hf]
  go_wp2_with fail
  refine(V7 _ ((l.take 12).drop 4) _ (HS.out _ hE0 4 12 (by omega) (by omega) (by omega) (by omega)) (by simp;omega)).mono ?_;rintro e W' ⟨rfl,rfl⟩;go_wp2_with fail
  have hE1:Ext w W.drew:=Ext.trans hE0 (Ext.drewN W 1);have hq1:=Q9 (HS.out _ hE1 16 (16+D7 l) (by omega) (by omega) (by omega) (by omega));have hq1':=Q9 (HS.out _ hE1 16 (16+D7 l) (by omega) (by omega) (by omega) (by omega));rw[show 16+D7 l - 16=D7 l by omega] at hq1;have hq2:=Q9 ((HB.out.ext hE1).sliced (16+D7 l) (16+D7 l+H6 l) (by omega) (by omega));by_cases hcc:cap=16+D7 l
  ·rw[if_pos hcc] at hq2;have hq2':=hq2;rw[show 16+D7 l+H6 l - (16+D7 l)=H6 l by omega] at hq2';have hcT:(cap=16+D7 l)=True:=eq_true hcc;clear hcc;go_region
   go_wp2;all_goals
    refine bodyPost_ret (v:=N9 (some ⟨num ((l.drop 4).take 8),(l.drop 16).take (D7 l),(l.drop (16+D7 l)).take (H6 l),true,16+D7 l+H6 l⟩)) ?_ rfl ⟨?_,?_⟩
    ·simp[results,Tryz.results125,go_sem,N9,a0l,xc0,xc1,xc2,xc3,xc4,List.drop_take]
    ·first|rfl|rw[hdec]
    ·refine Ext.trans ?_ (Ext.drewN _ 1);repeat' refine Ext.setN ?_ (by simp)
     exact hE0
  ·rw[if_neg hcc] at hq2;have e:(some ad).map (·.add (16+D7 l))=some (ad.add (16+D7 l)):=rfl;rw[e] at hq2;have hq2':=hq2;rw[show 16+D7 l+H6 l - (16+D7 l)=H6 l by omega] at hq2';go_region
   go_wp2;all_goals
    refine bodyPost_ret (v:=N9 (some ⟨num ((l.drop 4).take 8),(l.drop 16).take (D7 l),(l.drop (16+D7 l)).take (H6 l),true,16+D7 l+H6 l⟩)) ?_ rfl ⟨?_,?_⟩
    ·simp[results,Tryz.results125,go_sem,N9,a0l,xc0,xc1,xc2,xc3,xc4,List.drop_take]
    ·first|rfl|rw[hdec]
    ·refine Ext.trans ?_ (Ext.drewN _ 1);repeat' refine Ext.setN ?_ (by simp)
     exact hE0
 ·have hf1:((P8 l:Int)==1)=false:=beq_eq_false_iff_ne.2 (by omega);have hdec:dec l=some ⟨num ((l.drop 4).take 8),(l.drop 16).take (D7 l),(l.drop (16+D7 l)).take (H6 l),false,16+D7 l+H6 l⟩:=by
   unfold dec;rw[if_pos (by unfold good;rw[decide_eq_true (show 16+D7 l+H6 l<=l.length by omega),decide_eq_true hcr,decide_eq_true (show P8 l<=1 by omega),decide_eq_true (show 1<=D7 l by omega),decide_eq_true (show D7 l<=16 by omega),decide_eq_true (show H6 l<=64 by omega),decide_eq_false hf];rfl)];simp[hf]
  go_wp2_with fail
  refine(V7 _ ((l.take 12).drop 4) _ (HS.out _ hE0 4 12 (by omega) (by omega) (by omega) (by omega)) (by simp;omega)).mono ?_;rintro e W' ⟨rfl,rfl⟩;go_wp2_with fail
  have hE1:Ext w W.drew:=Ext.trans hE0 (Ext.drewN W 1);have hq1:=Q9 (HS.out _ hE1 16 (16+D7 l) (by omega) (by omega) (by omega) (by omega));have hq1':=Q9 (HS.out _ hE1 16 (16+D7 l) (by omega) (by omega) (by omega) (by omega));rw[show 16+D7 l - 16=D7 l by omega] at hq1;have hq2:=Q9 ((HB.out.ext hE1).sliced (16+D7 l) (16+D7 l+H6 l) (by omega) (by omega));by_cases hcc:cap=16+D7 l
  ·rw[if_pos hcc] at hq2;have hq2':=hq2;rw[show 16+D7 l+H6 l - (16+D7 l)=H6 l by omega] at hq2';have hcT:(cap=16+D7 l)=True:=eq_true hcc;clear hcc;go_region
   go_wp2;all_goals
    refine bodyPost_ret (v:=N9 (some ⟨num ((l.drop 4).take 8),(l.drop 16).take (D7 l),(l.drop (16+D7 l)).take (H6 l),false,16+D7 l+H6 l⟩)) ?_ rfl ⟨?_,?_⟩
    ·simp[results,Tryz.results125,go_sem,N9,a0l,xc0,xc1,xc2,xc3,xc4,List.drop_take]
    ·first|rfl|rw[hdec]
    ·refine Ext.trans ?_ (Ext.drewN _ 1);repeat' refine Ext.setN ?_ (by simp)
     exact hE0
  ·rw[if_neg hcc] at hq2;have e:(some ad).map (·.add (16+D7 l))=some (ad.add (16+D7 l)):=rfl;rw[e] at hq2;have hq2':=hq2;rw[show 16+D7 l+H6 l - (16+D7 l)=H6 l by omega] at hq2';go_region
   go_wp2;all_goals
    refine bodyPost_ret (v:=N9 (some ⟨num ((l.drop 4).take 8),(l.drop 16).take (D7 l),(l.drop (16+D7 l)).take (H6 l),false,16+D7 l+H6 l⟩)) ?_ rfl ⟨?_,?_⟩
    ·simp[results,Tryz.results125,go_sem,N9,a0l,xc0,xc1,xc2,xc3,xc4,List.drop_take]
    ·first|rfl|rw[hdec]
    ·refine Ext.trans ?_ (Ext.drewN _ 1);repeat' refine Ext.setN ?_ (by simp)
     exact hE0
end
section
open Go.RowKit Go.Lib Pl
def b9a(b:Bool)(w:World)(e:Ending)(w':World):Prop:=e=.returned (.bool b)/\∃n,w'=w.drewN n
theorem drewN_drewN(w:World)(a b:Nat):(w.drewN a).drewN b=w.drewN (a+b):=by
 induction b with
 | zero=>rfl
 | succ b ih=>show((w.drewN a).drewN b).drew=(w.drewN (a+b)).drew;rw[ih]
theorem b9b{α:Type}{l m:List α}{k:Nat}(hk:k<l.length)(hm:k<m.length)(h:l[k]≠m[k]):l≠m:=by
 rintro rfl;exact h rfl
theorem b3Z{α:Type}{l m:List α}{k:Nat}(h:l.take k=m.take k)(hk:k<l.length)(hm:k<m.length)(e:l[k]=m[k]):l.take (k+1)=m.take (k+1):=by
 rw[take_snoc l k hk,take_snoc m k hm,h,e]
theorem b9c(v u:Value)(l m:List UInt8)(w:World)(h:Bytes w v l)(h':Bytes w u m):
 Calls Tryz.prog 29 #[v,u] w (b9a (decide (l=m)) w):=by
 obtain⟨a,cap,rfl,hc,hc',-⟩:=h.open;obtain⟨a2,cap2,rfl,hd,hd',-⟩:=h'.open;have H:=Lib.hid h;have H':=Lib.hid h';clear h h';by_cases hl:l.length=m.length
 ·have hl':((l.length:Int) != (m.length:Int))=false:=by rw[bne,beq_iff_eq.2 (by omega)];rfl
  go_enter Tryz.func29,Tryz.ntmps29
  go_wp2;go_loopw [5] (fun i w'=>∃k:Nat,k<=l.length/\i=.int .i64 k/\l.take k=m.take k/\∃n,w'=w.drewN n) (fun i _=>l.length - (intOf i).toNat)
  case atStart=>exact⟨0,Nat.zero_le _,rfl,rfl,0,rfl⟩
  case round=>
   obtain⟨k,hk,rfl,ht,n,rfl⟩:=hrel;by_cases hlt:k<l.length
   ·have hx:=H.out.ext (Ext.drewN w n);have hy:=H'.out.ext (Ext.drewN w n);obtain⟨b,rfl,hb⟩:∃b,a=some b/\(w.drewN n).cell? (b.add k)=some (.int .u8 (l[k]).toNat):=by
     obtain⟨a',c',e,_,_,hf⟩:=hx.open;injection e with e1;subst e1;exact hf k hlt
    obtain⟨b2,rfl,hb2⟩:∃b,a2=some b/\(w.drewN n).cell? (b.add k)=some (.int .u8 (m[k]'(by omega)).toNat):=by
     obtain⟨a',c',e,_,_,hf⟩:=hy.open;injection e with e1;subst e1;exact hf k (by omega)
    clear hx hy;have hkm:k<m.length:=by omega
    have Ht:=Lib.hid ht;clear ht;by_cases he:l[k]=m[k]
    ·have he':(((l[k]).toNat:Int) != ((m[k]).toNat:Int))=false:=by rw[bne,beq_iff_eq.2 (by rw[he])];rfl
     have Hn:Hid (l.take (k+1)=m.take (k+1)):=b3Z Ht.out hlt hkm he;clear he;generalize hwn:w.drewN n=wn at *;go_wp2;go_quiet (fail)
     go_wp2;go_roundw
     case rel=>exact⟨k+1,by omega,by go_num,Hn.out,n+nq,by rw[<-hwn,drewN_drewN]⟩
     case measure=>simp[intOf];omega
    ·have hne:((l[k]).toNat:Int)≠((m[k]).toNat:Int):=fun e=>he (UInt8.toNat_inj.1 (by omega));have he':(((l[k]).toNat:Int) != ((m[k]).toNat:Int))=true:=by rw[bne,beq_eq_false_iff_ne.2 hne];rfl
     clear hne;have Hd:Hid (l≠m):=b9b hlt hkm he;clear he;generalize hwn:w.drewN n=wn at *;go_wp2;go_quiet (fail)
     go_wp2;go_ret;exact⟨by rw[decide_eq_false Hd.out];rfl,n+nq,by rw[<-hwn,drewN_drewN]⟩
   ·go_wp2;go_ret;have:l=m:=by
     have h1:=List.take_of_length_le (l:=l) (i:=k) (by omega);have h2:=List.take_of_length_le (l:=m) (i:=k) (by omega);rw[<-h1,<-h2];exact ht
    exact⟨by rw[decide_eq_true this];rfl,n,rfl⟩
 ·have hl':((l.length:Int) != (m.length:Int))=true:=by rw[bne,beq_eq_false_iff_ne.2 (by omega)];rfl
  go_enter Tryz.func29,Tryz.ntmps29
  go_wp2;go_ret;exact⟨by rw[decide_eq_false (by rintro rfl;exact hl rfl)];rfl,0,rfl⟩
theorem c1u(n:Int)(w:World):Calls Tryz.prog 18 #[.int .i64 n] w fun e w'=>e=.returned (.int .i64 n)/\w=w':=by
 go_enter Tryz.func18,Tryz.ntmps18
 go_wp2;go_ret;exact⟨rfl,rfl⟩
theorem b30(seq:Nat)(k v:ByteArray)(d:Bool)(w:World):
 Calls Tryz.prog 48 #[c3j seq k v d] w fun e w'=>e=.returned (a7E seq k v d 0)/\Ext w w':=by
 unfold c3j;go_enter Tryz.func48,Tryz.ntmps48
 go_wp2;refine bodyPost_ret (v:=a7E seq k v d 0) (by simp[results,Tryz.results48,go_sem,a7E]) rfl ⟨rfl,((Ext.refl w).new _).new _⟩
end
section
open Go.RowKit Go.Lib Go.Maps Dk
def X4(p:Nm×Value):List Value:=[strV p.1,p.2]
def U6(w:World)(v:Value)(l:Fl):Prop:=
 ∃(a:Option Addr)(cap:Nat)(rows:List (Nm×Value)),v=.slice a l.length cap/\l.length<=cap/\cap<=9223372036854775807/\rows.length=l.length/\
  (∀(i:Nat)p,rows[i]?=some p->∃g,a=some ⟨g,0,none⟩/\w.cell? ⟨g,i*2,none⟩=some (strV p.1)/\w.cell? ⟨g,i*2+1,none⟩=some p.2)/\
  ∀(i:Nat)p q,rows[i]?=some p->l[i]?=some q->p.1=q.1/\Bytes w p.2 q.2
theorem b5r(rows:List (Nm×Value))(i:Nat)(p:Nm×Value)(h:rows[i]?=some p)(j:Nat)(hj:j<2):(rows.flatMap X4)[2*i+j]?=(X4 p)[j]?:=by
 induction rows generalizing i with
 | nil=>simp at h
 | cons y l ih=>
  rw[List.flatMap_cons]
  cases i with
  | zero=>
   simp at h;subst h
   rw[List.getElem?_append_left (by simp[X4];omega)];simp
  | succ i=>
   simp at h;rw[List.getElem?_append_right (by simp[X4];omega),show 2*(i+1)+j - (X4 y).length=2*i+j by simp[X4];omega];exact ih i h
def b2u(rows:List (Nm×Value))(x:Value):Prop:=(∃s,x=.string s)\/x=.slice none 0 0\/∃p∈rows,x=p.2
def a0d(w:World)(B:Nat)(v:Value)(rows:List (Nm×Value))(l:Fl):Prop:=
 w.ownsRow B 77 2 v rows.length (rows.flatMap X4)/\rows.length=l.length/\(∀(i:Nat)p q,rows[i]?=some p->l[i]?=some q->p.1=q.1/\OwnB w B p.2 q.2)/\a5o (b2u rows) w v/\∀p∈rows,a18 w p.2
theorem a0d.files{w:World}{B:Nat}{v:Value}{rows:List (Nm×Value)}{l:Fl}(h:a0d w B v rows l):U6 w v l:=by
 obtain⟨h1,h2,h3,-⟩:=h;have hm:maxLen<=9223372036854775807:=by unfold maxLen;omega
 rcases h1.2 with⟨rfl,h0⟩|⟨g,cap,cur,rfl,_,hb,h4,h5,h6,h7⟩
 ·refine⟨none,0,rows,by rw[<-h2,h0],by omega,by omega,h2,fun i p hp=>?_,fun i p q hp hq=>⟨(h3 i p q hp hq).1,(h3 i p q hp hq).2.bytes⟩⟩;have:=(List.getElem?_eq_some_iff.1 hp).1;omega
 ·refine⟨some ⟨g,0,none⟩,cap,rows,by rw[h2],by omega,by omega,h2,fun i p hp=>⟨g,rfl,?_,?_⟩,fun i p q hp hq=>⟨(h3 i p q hp hq).1,(h3 i p q hp hq).2.bytes⟩⟩
  ·have e:=b5r rows i p hp 0 (by omega);rw[<-h7,List.getElem?_take] at e;split at e
   ·simp only[World.cell?,hb];rw[show i*2=2*i+0 by omega];simpa [X4] using e
   ·simp[X4] at e
  ·have e:=b5r rows i p hp 1 (by omega);rw[<-h7,List.getElem?_take] at e;split at e
   ·simp only[World.cell?,hb];rw[show i*2+1=2*i+1 by omega];simpa [X4] using e
   ·simp[X4] at e
theorem a0d.keep{w w':World}{B:Nat}{v:Value}{rows:List (Nm×Value)}{l:Fl}(h:a0d w B v rows l)(hk:∀b,B<=b->b<w.heap.size->w'.heap[b]?=w.heap[b]?):a0d w' B v rows l:=by
 obtain⟨h1,h2,h3,h4,h5⟩:=h;refine⟨Dep.row h1 w' fun b hb=>hk b (h1.lt b hb).1 (h1.lt b hb).2,h2,fun i p q hp hq=>⟨(h3 i p q hp hq).1,?_⟩,h4.keep fun b hb=>hk b (h1.lt b hb).1 (h1.lt b hb).2,fun p hp=>?_⟩
 ·have ho:=(h3 i p q hp hq).2;exact Dep.row ho w' fun b hb=>hk b (World.ownsRow.lt ho b hb).1 (World.ownsRow.lt ho b hb).2
 ·obtain⟨i,hi⟩:=List.getElem?_of_mem hp;have hil:i<l.length:=by have:=(List.getElem?_eq_some_iff.1 hi).1;omega
  have ho:=(h3 i p _ hi (List.getElem?_eq_getElem hil)).2;exact(h5 p hp).keep fun b hb=>hk b (World.ownsRow.lt ho b hb).1 (World.ownsRow.lt ho b hb).2
theorem b2r.keep{w w':World}{B:Nat}{v:Value}{l:List Nm}(h:b2r w B v l)(hk:∀b,B<=b->b<w.heap.size->w'.heap[b]?=w.heap[b]?):b2r w' B v l:=
 Dep.row h w' fun b hb=>hk b (World.ownsRow.lt h b hb).1 (World.ownsRow.lt h b hb).2
theorem a0d.held{w:World}{F:Nat->Prop}{B:Nat}{v:Value}{rows:List (Nm×Value)}{l:Fl}(h:a0d w B v rows l)(hF:∀b,F b->b<B):Held w F (fun W=>U6 W v l):=
 ⟨fun b=>B<=b/\b<w.heap.size,fun b hb=>⟨hb.2,fun hF'=>by have:=hF b hF';omega⟩,fun w' hw=>(h.keep fun b h1 h2=>hw b ⟨h1,h2⟩).files⟩
theorem a0d.nil(w:World)(B:Nat):a0d w B (.slice none 0 0) [] []:=⟨⟨rfl,Or.inl ⟨rfl,rfl⟩⟩,rfl,(by simp),(fun g c e fr h=>by cases h),(by simp)⟩
theorem Chg.grown{F:Nat->Prop}{w w1 w2:World}{row:Option Nat}(h:Chg F F w w1)(hg:w1.grownBy w2 row)(hr:∀k,row=some k->w.heap.size<=k):Chg F F w w2:=
 ⟨hg.os.trans h.os,hg.tape.trans h.tape,hg.output.trans h.output,Nat.le_trans h.size hg.size,fun b hb hF=>(hg.block b (Nat.lt_of_lt_of_le hb h.size) (fun e=>by have:=hr b e.symm;omega)).trans (h.block b hb hF),fun b hb=>.inl hb⟩
theorem b2r.cell{w:World}{B:Nat}{v:Value}{l:List Nm}(h:b2r w B v l){k:Nat}{n:Nm}(hk:l[k]?=some n):∃b c,v=.slice (some ⟨b,0,none⟩) l.length c/\w.cell? ⟨b,k,none⟩=some (strV n):=by
 obtain⟨h1,h2⟩:=h;have hkl:k<l.length:=(List.getElem?_eq_some_iff.1 hk).1;rcases h2 with⟨rfl,h0⟩|⟨g,cap,cur,rfl,_,hb,h3,h4,h5,h6⟩
 ·omega
 ·refine⟨g,cap,rfl,?_⟩;have e:(l.map strV)[k]?=some (strV n):=by rw[List.getElem?_map,hk];rfl
  rw[<-h6,List.getElem?_take] at e;split at e
  ·simp only[World.cell?,hb];simpa using e
  ·cases e
theorem b6o:(Tryz.prog.info? 77).map (fun i=>(i.zero,i.size,i.bytes))=some (some (.agg #[.string ⟨#[]⟩,.slice none 0 0]),2,40):=by kernel_rfl
theorem a8k(d:D)(n:Nm)(h:n∈d.list):∃b,d.file n=some b:=by
 cases e:d.file n with
 | none=>
  unfold D.file at e;rw[Option.map_eq_none_iff,O7,<-a2J] at e
  exact absurd h e
 | some b=>exact⟨b,rfl⟩
theorem b5s{d:D}(hw:d.Wf){c:Nat}(hds:∀x∈d.ids,(d.node x).data.length<=c){n:Nm}{b:List UInt8}(h:d.file n=some b):b.length<=c:=by
 unfold D.file at h;obtain⟨x,hx,rfl⟩:=Option.map_eq_some_iff.1 h;exact hds x (hw.now _ (a0N hx))
def c3k(F:Nat->Prop)(a:Nat)(d:D)(w:World)(e:Ending)(w':World):Prop:=
 ∃v rows,e=.returned v/\a0d w' w.heap.size v rows d.files/\A8 w' F a d/\Chg F F w w'
theorem a99(F:Nat->Prop)(a:Nat)(d:D)(w:World)(h:A8 w F a d)(hc:d.Calm)(hnl:d.now.length<=32768)(hds:∀x∈d.ids,(d.node x).data.length<=35184372088832)(hnm:∀p∈d.now,p.1.length<=maxLen):
 Calls Tryz.prog 16 #[y8 a] w (c3k F a d w):=by
 have hlist:=b8J F a d w h hnl;have hlow:=h.low;have hll:d.list.length<=32768:=by unfold D.list;simpa using hnl
 have hnm':∀n∈d.list,n.length<=maxLen:=by
  intro n hn;rw[a2J] at hn;obtain⟨p,hp,rfl⟩:=List.mem_map.1 hn;exact hnm p hp
 obtain⟨i0,hi,hz0,hz1,hz2⟩:=info_parts b6o;have HL:=Lib.hid hlist;have HD:=Lib.hid h;have HLOW:=Lib.hid hlow;have HDS:=Lib.hid hds;have HNM:=Lib.hid hnm';have HC:=Lib.hid hc;have HW:=Lib.hid h.wf;clear hlist h hlow hds hnm hnm' hc;unfold y8 at HL;show Calls Tryz.prog 16 #[.pointer (some ⟨a,0,none⟩)] w (c3k F a d w);go_enter Tryz.func16,Tryz.ntmps16
 go_wp2_with fail
 refine HL.out.mono ?_;rintro e w1 ⟨nv,rfl,hN,hE⟩;have HN:=Lib.hid hN;have HE:=Lib.hid hE;clear hN hE HL;go_wp2;go_loopw [3,5] (fun u i wr=>∃(k:Nat)(rows:List (Nm×Value)),k<=d.list.length/\i=.int .i64 k/\a0d wr w.heap.size u rows (d.files.take k)/\b2r wr w.heap.size nv d.list/\A8 wr F a d/\Chg F F w wr) (fun _ i _=>d.list.length - (intOf i).toNat)
 case atStart=>exact⟨0,[],Nat.zero_le _,rfl,a0d.nil _ _,HN.out,HD.out.ext HE.out,Chg.ext HE.out⟩
 case round=>
  obtain⟨k,rows,hk,rfl,hR,hNr,hD,hC⟩:=hrel;obtain⟨na,nc,hnv⟩:=ownsRow_form hNr;obtain⟨ua,uc,hu⟩:=ownsRow_form hR.1;have hrl:rows.length<=32768:=by have:=hR.2.1;rw[List.length_take] at this;omega
  by_cases hlt:k<d.list.length
  ·obtain⟨nm,hm⟩:∃nm,d.list[k]?=some nm:=⟨_,List.getElem?_eq_getElem hlt⟩;have hmem:nm∈d.list:=List.mem_of_getElem? hm;obtain⟨fb,hfb⟩:=a8k d nm hmem;have hfl:=b5s HW.out HDS.out hfb;obtain⟨nb,nc',hnv',hcell⟩:=hNr.cell hm;have hsize:=size_any F a d nm wr hD (HNM.out nm hmem);rw[HC.out.size,hfb] at hsize;subst hnv';have hlow2:∀b,F b->b<w.heap.size:=HLOW.out;have hkeep:∀(x y:World),Chg F F x y->∀b,w.heap.size<=b->b<x.heap.size->y.heap[b]?=x.heap[b]?:=fun x y hxy b hb hbx=>hxy.block b hbx (fun hF=>by have:=hlow2 b hF;omega);have HS:=Lib.hid hsize;have HR:=Lib.hid hR;have HNR:=Lib.hid hNr;have HCC:=Lib.hid hC;have HFB:=Lib.hid hfb;have HK:=Lib.hid hkeep;have HM:=Lib.hid hm;have HNM2:=Lib.hid (HNM.out nm hmem);clear hsize hR hNr hD hC hfb hkeep hm hnv hlow2;unfold strV at hcell;unfold y8 strV at HS;subst hu;go_wp2_with fail
   refine HS.out.mono ?_;rintro e w2 ⟨v2,rfl,_,hD2,hC2⟩;have hR2:=HR.out.keep (HK.out _ _ hC2);have hN2:=HNR.out.keep (HK.out _ _ hC2);have hrd:=a8g F a d nm 0 (fb.length:Int) w2 hD2 HNM2.out (by omega) (by omega) (fun x hx=>Nat.le_trans (HDS.out x hx) (by omega));rw[HC.out.readAt,HFB.out] at hrd;simp only[b2k] at hrd;obtain⟨nb2,nc2,hnv2,hcell2⟩:=hN2.cell HM.out;injection hnv2 with e1 e2 e3;injection e1 with e1;injection e1 with e1;subst e1;subst e3;have HRD:=Lib.hid hrd;have HC2:=Lib.hid (HCC.out.trans hC2);have HR2:=Lib.hid hR2;have HN2:=Lib.hid hN2;clear hrd hC2 hR2 hN2 hcell e2 hD2 HR HNR HCC HS;unfold strV at hcell2;unfold y8 strV at HRD;go_wp2_with fail
   refine HRD.out.mono ?_;rintro e w3 ⟨bv,v3,rfl,hB3,_,hD3,hC3,hF3⟩;have hR3:=HR2.out.keep (HK.out _ _ hC3);have hN3:=HN2.out.keep (HK.out _ _ hC3);have hCC:=HC2.out.trans hC3;have hB3':OwnB w3 w.heap.size bv fb:=O8 hB3 HC2.out.size;obtain⟨nb3,nc3,hnv3,hcell3⟩:=hN3.cell HM.out;injection hnv3 with e1 e2 e3;injection e1 with e1;injection e1 with e1;subst e1;subst e3;have hrow:=hR3.1;obtain⟨ba,bc,hbv⟩:=ownsRow_form hB3;subst hbv;have fz:∀x∈(Value.agg #[.string ⟨#[]⟩,.slice none 0 0]).cells,b2u (rows++[(nm,Value.slice ba fb.length bc)]) x:=fun x hx=>by
    rcases(by simpa [Value.cells] using hx:x=.string ⟨#[]⟩\/x=.slice none 0 0) with rfl|rfl
    ·exact .inl ⟨_,rfl⟩
    ·exact .inr (.inl rfl)
   have fn:∀x∈[strV nm,Value.slice ba fb.length bc],b2u (rows++[(nm,Value.slice ba fb.length bc)]) x:=fun x hx=>by
    rcases(by simpa using hx:x=strV nm\/x=Value.slice ba fb.length bc) with rfl|rfl
    ·exact .inl ⟨_,rfl⟩
    ·exact .inr (.inr ⟨(nm,Value.slice ba fb.length bc),(by simp),rfl⟩)
   have fo:a5o (b2u (rows++[(nm,Value.slice ba fb.length bc)])) w3 (.slice ua rows.length uc):=fun g c e fr hg hc x hx=>(hR3.2.2.2.1 g c e fr hg hc x hx).imp id fun h=>h.imp id fun⟨p,hp,e⟩=>⟨p,List.mem_append_left _ hp,e⟩;have HF3:=Lib.hid hF3;clear hF3;have HR3:=Lib.hid hR3;have HN3:=Lib.hid hN3;have HC3:=Lib.hid hCC;have HB3:=Lib.hid hB3';have HD3:=Lib.hid hD3;clear hR3 hN3 hCC hC3 hB3 hB3' hD3 hcell2 e2 HR2 HN2 HC2 HRD;unfold strV at hcell3;have hE4:Ext w3 (w3.alloc (.cells #[strV nm,Value.slice ba fb.length bc] 77)):=(Ext.refl w3).new _;go_wp2_with (at_builtin;go_must (refine a0e (F:=b2u (rows++[(nm,Value.slice ba fb.length bc)])) rfl _ _ 40 rfl w.heap.size 77 i0 (.agg #[.string ⟨#[]⟩,.slice none 0 0]) 2 40 Tryz.underlying40 hi hz0 hz1 hz2 rfl (by omega) (.slice ua rows.length uc) rows.length _ rfl (hrow.alloc (.cells #[strV nm,Value.slice ba fb.length bc] 77)) (.slice (some ⟨w3.heap.size,0,none⟩) 1 1) 1 [strV nm,Value.slice ba fb.length bc] rfl ⟨_,_,rfl,by omega,⟨by omega,fun h=>by cases h⟩,fun _=>⟨_,rfl,World.news_of_block (cs:=#[strV nm,Value.slice ba fb.length bc]) (t:=77) (fr:=(0,0)) (heap_alloc_new w3 _)⟩⟩ rfl (by simp[Value.oneCell',strV]) (by unfold maxLen;omega) (by omega) (by have:=HC3.out.size;simp;omega) fz fn (fo.keep fun b hb=>heap_alloc_old _ _ (a3O hrow hb)) ?_);intro b6 c6 w6 hown6 hgrow6 hat6 hfl6;have HFL6:=Lib.hid hfl6;clear hfl6;have HO6:=Lib.hid hown6;have HG6:=Lib.hid hgrow6;clear hown6 hgrow6 hat6)
   go_roundw
   case rel=>
    have hkb:∀b,w.heap.size<=b->b<w3.heap.size->(Value.slice ua rows.length uc).ownBlock≠some b->w6.heap[b]?=w3.heap[b]?:=fun b hb hb3 hne=>(HG6.out.block b (by simp;omega) (fun e=>hne e.symm)).trans (heap_alloc_old w3 _ hb3);have htk:d.files.take (k+1)=d.files.take k++[(nm,fb)]:=by
     have:d.files[k]?=some (nm,fb):=by
      unfold D.files;rw[List.getElem?_map,HM.out];simp[HFB.out]
     rw[List.take_add_one,this];rfl
    have hlen:=HR3.out.2.1;refine⟨k+1,rows++[(nm,Value.slice ba fb.length bc)],by omega,by go_num,⟨?_,?_,?_,?_,?_⟩,?_,?_,?_⟩
    ·have:=HO6.out;rw[List.length_append,List.flatMap_append];simpa [X4] using this
    ·rw[htk,List.length_append,List.length_append,hlen];rfl
    ·intro i p q hp hq;rw[htk] at hq;by_cases hi2:i<rows.length
     ·rw[List.getElem?_append_left hi2] at hp;rw[List.getElem?_append_left (by omega)] at hq;obtain⟨h1,h2⟩:=HR3.out.2.2.1 i p q hp hq;refine⟨h1,Dep.row h2 w6 fun b hb=>hkb b (World.ownsRow.lt h2 b hb).1 (World.ownsRow.lt h2 b hb).2 (a1l h2 HR3.out.1 (by decide) hb)⟩
     ·rw[List.getElem?_append_right (by omega)] at hp;rw[List.getElem?_append_right (by omega),<-hlen] at hq;have e0:i - rows.length=0:=by
       rcases Nat.eq_zero_or_pos (i - rows.length) with e|e
       ·exact e
       ·rw[List.getElem?_eq_none (by simp;omega)] at hp;cases hp
      rw[e0] at hp hq;simp at hp hq;subst hp;subst hq;refine⟨rfl,Dep.row HB3.out w6 fun b hb=>hkb b (World.ownsRow.lt HB3.out b hb).1 (World.ownsRow.lt HB3.out b hb).2 (a1l HB3.out HR3.out.1 (by decide) hb)⟩
    ·exact HFL6.out
    ·intro p hp;rcases List.mem_append.1 hp with hp|hp
     ·obtain⟨i,hi⟩:=List.getElem?_of_mem hp;have hil:i<(d.files.take k).length:=by have:=(List.getElem?_eq_some_iff.1 hi).1;omega
      have ho:=(HR3.out.2.2.1 i p _ hi (List.getElem?_eq_getElem hil)).2;exact(HR3.out.2.2.2.2 p hp).keep fun b hb=>hkb b (World.ownsRow.lt ho b hb).1 (World.ownsRow.lt ho b hb).2 (a1l ho HR3.out.1 (by decide) hb)
     ·obtain rfl:=List.mem_singleton.1 hp;exact HF3.out.keep fun b hb=>hkb b (World.ownsRow.lt HB3.out b hb).1 (World.ownsRow.lt HB3.out b hb).2 (a1l HB3.out HR3.out.1 (by decide) hb)
    ·exact Dep.row HN3.out w6 fun b hb=>hkb b (World.ownsRow.lt HN3.out b hb).1 (World.ownsRow.lt HN3.out b hb).2 (a1l HN3.out HR3.out.1 (by decide) hb)
    ·exact HD3.out.frame (fun b hb=>(HG6.out.block b (by have:=HLOW.out b hb;have:=HC3.out.size;simp;omega) (fun e=>by have:=(HR3.out.1.lt b e.symm).1;have:=HLOW.out b hb;omega)).trans (heap_alloc_old w3 _ (by have:=HLOW.out b hb;have:=HC3.out.size;omega))) (by have:=HG6.out.size;simp at this;omega)
    ·exact(HC3.out.trans (Chg.ext hE4)).grown HG6.out fun b hb=>(HR3.out.1.lt b hb).1
   case measure=>simp[intOf];omega
  ·obtain rfl:k=d.list.length:=by omega
   subst hu;have hfin:c3k F a d w (.returned (.slice ua rows.length uc)) wr:=by
    refine⟨.slice ua rows.length uc,rows,rfl,?_,hD,hC⟩;have:d.files.take d.list.length=d.files:=by rw[List.take_of_length_le];unfold D.files;simp
    rw[<-this];exact hR
   have HFIN:=Lib.hid hfin;subst hnv;clear hfin hR hD hC hNr;go_wp2;go_ret;exact HFIN.out
end
section
open Go.RowKit Go.Lib Go.Maps Dk Pl
def b8N(l:Fl)(name:Nm)(w:World)(e:Ending)(w':World):Prop:=
 w'=w/\∃v,e=.returned (.tuple #[v,.bool (F5 l name).isSome])/\Bytes w v ((F5 l name).getD [])
theorem a7x{l:Fl}{k:Nat}{q:Nm×List UInt8}{name:Nm}(h:F5 (l.take k) name=none)(hq:l[k]?=some q)(hne:q.1≠name):F5 (l.take (k+1)) name=none:=by
 rw[List.take_add_one,hq];show F5 (l.take k++[q]) name=none;rw[a3d,h,a0c,if_neg hne];rfl
theorem b6p{l:Fl}{k:Nat}{q:Nm×List UInt8}{name:Nm}(h:F5 (l.take k) name=none)(hq:l[k]?=some q)(he:q.1=name):F5 l name=some q.2:=by
 have hk:k<l.length:=(List.getElem?_eq_some_iff.1 hq).1;have e:l=l.take k++(q::l.drop (k+1)):=by
  have h2:=(List.getElem?_eq_some_iff.1 hq).2;rw[<-h2,<-List.drop_eq_getElem_cons hk,List.take_append_drop]
 rw[e,a3d,h,a0c,if_pos he];rfl
theorem b0a(v:Value)(l:Fl)(name:Nm)(w:World)(h:U6 w v l):
 Calls Tryz.prog 31 #[v,strV name] w (b8N l name w):=by
 obtain⟨a,cap,rows,rfl,hc,hc',hrl,hcell,hby⟩:=h;have HC:=Lib.hid hcell;have HB:=Lib.hid hby;clear hcell hby;unfold strV;go_enter Tryz.func31,Tryz.ntmps31
 go_wp2;go_loopw [6] (fun i wr=>∃k:Nat,k<=l.length/\i=.int .i64 k/\F5 (l.take k) name=none/\wr=w) (fun i _=>l.length - (intOf i).toNat)
 case atStart=>exact⟨0,Nat.zero_le _,rfl,by simp[F5],rfl⟩
 case round=>
  obtain⟨k,hk,rfl,hno,rfl⟩:=hrel;by_cases hlt:k<l.length
  ·obtain⟨q,hq⟩:∃q,l[k]?=some q:=⟨_,List.getElem?_eq_getElem hlt⟩;obtain⟨p,hp⟩:∃p,rows[k]?=some p:=⟨_,List.getElem?_eq_getElem (by omega)⟩;obtain⟨g,rfl,c0,c1⟩:=HC.out k p hp;obtain⟨he,hb⟩:=HB.out k p q hp hq;have HNO:=Lib.hid hno;have HQ:=Lib.hid hq;have HBB:=Lib.hid hb;have HE:=Lib.hid he;clear hno hq hb hp he;unfold strV at c0;by_cases hnm:p.1=name
   ·have hx:(p.1==name)=true:=beq_iff_eq.2 hnm;have hfin:b8N l name wr (.returned (.tuple #[p.2,.bool true])) wr:=by
     have e:=b6p HNO.out HQ.out (HE.out.symm.trans hnm);exact⟨rfl,p.2,by rw[e];rfl,by rw[e];exact HBB.out⟩
    have HF:=Lib.hid hfin;clear hfin hnm;go_wp2;go_ret2
    exact HF.out
   ·have hx:(p.1==name)=false:=beq_eq_false_iff_ne.2 hnm;have HX:=Lib.hid hnm;clear hnm;go_wp2;go_roundw
    case rel=>exact⟨k+1,by omega,by go_num,a7x HNO.out HQ.out (fun e=>HX.out (HE.out.trans e)),by trivial⟩
    case measure=>simp[intOf];omega
  ·obtain rfl:k=l.length:=by omega
   have hfin:b8N l name wr (.returned (.tuple #[.slice none 0 0,.bool false])) wr:=by
    rw[List.take_length] at hno;exact⟨rfl,_,by rw[hno];rfl,by rw[hno];exact⟨none,0,rfl,Nat.le_refl _,⟨by omega,fun _=>rfl⟩,fun h=>absurd rfl h⟩⟩
   have HF:=Lib.hid hfin;clear hfin hno;go_wp2;go_ret2
   exact HF.out
theorem c3l(v:Value)(l:List Int)(x:Int)(w:World)(h:Ints w v l):
 Calls Tryz.prog 51 #[v,.int .i64 x] w fun e w'=>e=.returned (.bool (decide (x∈l)))/\w'=w:=by
 obtain⟨a,cap,rfl,hc,hc',hcell⟩:=h;have hat:∀k,(hk:k<l.length)->∃b,a=some b/\w.cell? (b.add k)=some (.int .i64 l[k]):=by
  intro k hk;obtain⟨b,rfl,hb⟩:=hcell (fun e=>by simp at e;subst e;simp at hk);exact⟨b,rfl,hb k _ (by simp[hk])⟩
 have HA:=Lib.hid hat;clear hat hcell;go_enter Tryz.func51,Tryz.ntmps51
 go_wp2;go_loopw [5] (fun i wr=>∃k:Nat,k<=l.length/\i=.int .i64 k/\x∉l.take k/\wr=w) (fun i _=>l.length - (intOf i).toNat)
 case atStart=>exact⟨0,Nat.zero_le _,rfl,by simp,rfl⟩
 case round=>
  obtain⟨k,hk,rfl,hno,rfl⟩:=hrel;by_cases hlt:k<l.length
  ·obtain⟨b,rfl,c0⟩:=HA.out k hlt;have HNO:=Lib.hid hno;clear hno;by_cases hx:l[k]=x
   ·have hx':(l[k]==x)=true:=beq_iff_eq.2 hx;have hd:decide (x∈l)=true:=decide_eq_true (hx▸List.getElem_mem hlt);have HD:=Lib.hid hd;clear hd;clear hx;go_wp2;go_ret;exact⟨by rw[HD.out];rfl,rfl⟩
   ·have hx':(l[k]==x)=false:=beq_eq_false_iff_ne.2 hx;have HX:=Lib.hid hx;clear hx;go_wp2;go_roundw
    case rel=>
     refine⟨k+1,by omega,by go_num,?_,by trivial⟩;rw[take_snoc l k hlt,List.mem_append];rintro(h|h)
     ·exact HNO.out h
     ·simp at h;exact HX.out h.symm
    case measure=>simp[intOf];omega
  ·obtain rfl:k=l.length:=by omega
   rw[List.take_length] at hno;have hd:decide (x∈l)=false:=decide_eq_false hno;have HD:=Lib.hid hd;clear hd hno;go_wp2;go_ret;exact⟨by rw[HD.out];rfl,rfl⟩
end
section
open Go.RowKit Go.Lib Go.Maps Dk Pl
def sfx(id:Nat):Nat->Nm
 | 0=>[]
 | k+1=>digit (id/10^k)::sfx id k
theorem a6S(kind:Nm)(id:Nat):G5 kind id=kind++sfx id 6:=by
 simp[G5,sfx]
theorem b5E(id:Nat):∀k,(sfx id k).length=k:=by
 intro k
 induction k with
 | zero=>rfl
 | succ k ih=>simp[sfx,ih]
theorem a7R(a b:Nm):(⟨a.toArray⟩:ByteArray)++(⟨b.toArray⟩:ByteArray)=⟨(a++b).toArray⟩:=by
 apply ByteArray.ext;simp
theorem b67(n:Nat):(digit n).toNat=48+n%10:=by
 unfold digit;rw[UInt8.toNat_ofNat'];omega
theorem b4f(n:Nat):Value.int .u8 (((48+n%10:Nat)):Int)=byteV (digit n):=by
 unfold byteV;rw[b67]
theorem a3S(kind:Nm)(id:Nat)(w:World)(hk:kind.length<=1000)(hid:id<=999999):
 Calls Tryz.prog 20 #[strV kind,.int .i64 id] w fun e w'=>e=.returned (strV (G5 kind id))/\Ext w w':=by
 unfold strV;go_enter Tryz.func20,Tryz.ntmps20
 go_wp2;go_loopw [1,5,6] (fun x s i wr=>∃k:Nat,k<=6/\i=.int .i64 k/\x=.int .i64 ((id/10^k:Nat))/\s=.string ⟨(sfx id k).toArray⟩/\Ext w wr) (fun _ _ i _=>6 - (intOf i).toNat)
 case atStart=>exact⟨0,by omega,rfl,by simp,rfl,Ext.refl w⟩
 case round=>
  obtain⟨k,hk6,rfl,rfl,rfl,hE⟩:=hrel;by_cases hlt:k<6
  ·obtain⟨y,hy⟩:∃y,id/10^k=y:=⟨_,rfl⟩;have hyl:y<=999999:=by rw[<-hy];exact Nat.le_trans (Nat.div_le_self _ _) hid
   have hy2:id/10^(k+1)=y/10:=by rw[<-hy,Nat.pow_succ,Nat.div_div_eq_div_mul]
   have hm:((y:Int).tmod 10)=((y%10:Nat):Int):=by
    have:=Int.ofNat_tmod y 10;simpa using this.symm
   have hd:((y:Int).tdiv 10)=((y/10:Nat):Int):=by
    have:=Int.ofNat_tdiv y 10;simpa using this.symm
   rw[hy];have HY:=Lib.hid hy;have HY2:=Lib.hid hy2;have HE:=Lib.hid hE;clear hy hy2 hE;have hnews:Bytes (wr.alloc (.cells #[.int .u8 (48+(y:Int)%10)] 5)) (.slice (some ⟨wr.heap.size,0,none⟩) 1 1) [digit y]:=by
    have e:Value.int .u8 (48+(y:Int)%10)=byteV (digit y):=by rw[<-b4f];simp
    rw[e];exact⟨_,_,rfl,by simp,⟨by omega,fun h=>by cases h⟩,fun _=>⟨_,rfl,World.news_of_block (cs:=#[byteV (digit y)]) (t:=5) (fr:=(0,0)) (heap_alloc_new wr _)⟩⟩
   have hq:=Q9 hnews;have HQ:=Lib.hid hnews;clear hnews;have hsl:(sfx id k).length<=6:=by rw[b5E];omega
   go_wp2;go_roundw
   case rel=>
    refine⟨k+1,by omega,by go_num,?_,?_,HE.out.new _⟩
    ·rw[HY2.out];simp
    ·show Value.string (⟨([digit y]:Nm).toArray⟩++⟨(sfx id k).toArray⟩)=_;rw[a7R,show sfx id (k+1)=digit (id/10^k)::sfx id k from rfl,HY.out];rfl
   case measure=>simp[intOf];omega
  ·obtain rfl:k=6:=by omega
   have HE:=Lib.hid hE;clear hE;have hsl:(sfx id 6).length=6:=b5E _ _;go_wp2;go_ret;refine⟨?_,HE.out⟩;rw[a6S,<-a7R];rfl
end
section
open Go.RowKit Go.Lib Go.Maps Dk Pl
end
end Go.Proofs.YtgpbhjjajpbeeaaGreatDoor
