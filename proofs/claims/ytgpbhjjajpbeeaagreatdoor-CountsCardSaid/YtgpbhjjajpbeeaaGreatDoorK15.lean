/- A part of what the last file proves. -/
import Derived.Test.YtgpbhjjajpbeeaaGreatDoorK14
import Derived.BigRegion
set_option linter.all false
set_option maxRecDepth 100000
set_option maxHeartbeats 2000000
namespace Go.Proofs.YtgpbhjjajpbeeaaGreatDoor
section
open Go.RowKit Go.Lib Pl
def a7p(seq:Nat)(k v:ByteArray)(d:Bool)(size:Int):Value:=.agg #[.int .u64 seq,.string k,.string v,.bool d,.int .i64 size]
def c0h(n:Int)(w:World)(e:Ending)(w':World):Prop:=e=.returned (.tuple #[.slice none 0 0,.int .i64 n])/\Ext w w'
def b4A(l:List UInt8)(w:World)(e:Ending)(w':World):Prop:=∃v,e=.returned (.tuple #[v,.int .i64 0])/\J8 w' w.heap.size v l/\Ext w w'
theorem a6h(w:World)(x:Value)(t:TypeId):U9 (w.alloc (.cells #[x] t)) (.slice (some ⟨w.heap.size,0,none⟩) 1 1) 1 [x]:=
 ⟨_,_,rfl,Nat.le_refl _,⟨by omega,fun h=>by cases h⟩,fun _=>⟨_,rfl,fun i y hy=>World.news_of_block (cs:=#[x]) (t:=t) (fr:=(0,0)) (heap_alloc_new w _) i y hy⟩⟩
theorem a9n(seq:Nat)(k v:ByteArray)(d:Bool)(sz:Int)(w:World)(h:k.size<1\/16<k.size):
 Calls Tryz.prog 49 #[a7p seq k v d sz] w (c0h 1 w):=by
 unfold a7p;rcases h with h|h
 ·have h0:((k.size:Int)==0)=true:=beq_iff_eq.2 (by omega);go_enter Tryz.func49,Tryz.ntmps49
  go_wp2;go_ret2
  exact⟨rfl,Below.alloc (Below.refl _ _) (Nat.le_refl _) _⟩
 ·have h0:((k.size:Int)==0)=false:=beq_eq_false_iff_ne.2 (by omega);go_enter Tryz.func49,Tryz.ntmps49
  go_wp2;go_ret2
  exact⟨rfl,Below.alloc (Below.refl _ _) (Nat.le_refl _) _⟩
theorem a9o(seq:Nat)(k v:ByteArray)(d:Bool)(sz:Int)(w:World)(h1:1<=k.size)(h2:k.size<=16)(h:64<v.size\/(v.size<=64/\d=true/\0<v.size)):
 Calls Tryz.prog 49 #[a7p seq k v d sz] w (c0h 2 w):=by
 unfold a7p;have h0:((k.size:Int)==0)=false:=beq_eq_false_iff_ne.2 (by omega);have h'':¬16<k.size:=by omega
 rcases h with h|⟨h,rfl,hv⟩
 ·go_enter Tryz.func49,Tryz.ntmps49
  go_wp2;go_ret2
  exact⟨rfl,Below.alloc (Below.refl _ _) (Nat.le_refl _) _⟩
 ·have hv':v.toList.isEmpty=false:=by rw[a5a];exact decide_eq_false (by omega)
  go_enter Tryz.func49,Tryz.ntmps49
  go_wp2;go_ret2
  exact⟨rfl,Below.alloc (Below.refl _ _) (Nat.le_refl _) _⟩
theorem b1t(seq:Nat)(k v:ByteArray)(d:Bool)(sz:Int)(w:World)(h1:1<=k.size)(h2:k.size<=16)(hv:v.size<=64)(h:d=false\/v.size=0):
 Calls Tryz.prog 49 #[a7p seq k v d sz] w (b4A (summed (body seq k.data.toList v.data.toList d)) w):=by
 unfold a7p;obtain⟨i0,hi,hz0,hz1,hz2⟩:=info_parts a3N;have h0:((k.size:Int)==0)=false:=beq_eq_false_iff_ne.2 (by omega);have h'':¬16<k.size:=by omega
 have h3:¬64<v.size:=by omega
 have hwk:IntKind.u64.wrap (k.size:Int)=(k.size:Int):=by rw[IntKind.wrap_u64];omega
 have hwv:IntKind.u64.wrap (v.size:Int)=(v.size:Int):=by rw[IntKind.wrap_u64];omega
 rcases Bool.eq_false_or_eq_true d with rfl|rfl
 ·have hv':v.toList.isEmpty=true:=by rw[a5a];exact decide_eq_true (by simpa using h)
  go_enter Tryz.func49,Tryz.ntmps49
  go_wp2_with fail
  have hx:j6 (w.alloc (.cells #[.int .u64 seq,.string k,.string v,.bool true,.int .i64 sz] 116)) w.heap.size 116 #[.int .u64 seq,.string k,.string v,.bool true,.int .i64 sz]:=heap_alloc_new w _;have hb:Below (w.heap.size+1) (w.alloc (.cells #[.int .u64 seq,.string k,.string v,.bool true,.int .i64 sz] 116)) (w.alloc (.cells #[.int .u64 seq,.string k,.string v,.bool true,.int .i64 sz] 116)):=Below.refl _ _;have hs:w.heap.size+1<=(w.alloc (.cells #[.int .u64 seq,.string k,.string v,.bool true,.int .i64 sz] 116)).heap.size:=by simp
  refine(O5 _ (w.heap.size+1) ([]) (seq) 8 _ (World.ownsRow_nil _ _ _ _) (by omega) (by simp[D9,G5]<;>omega) hs).mono ?_;rintro e w2 ⟨v2,rfl,hown,hbn⟩;replace hx:=hx.below hbn (by omega);replace hs:=Nat.le_trans hs hbn.size;replace hb:=hb.trans hbn;clear hbn;have hcw23:w2.cell? ⟨w.heap.size,3,none⟩=some (.bool true):=hx.cell 3;rw[List.nil_append] at hown;have hs2:w.heap.size+1<=w2.heap.size:=hs;have e3:(be seq 8++be 1 1).map byteV=(be seq 8).map byteV++[.int .u8 1]:=by rw[List.map_append];rfl
  have e3':(be seq 8++be 1 1).length=(be seq 8).length+1:=by simp[D9]
  have E3:=Lib.hid e3;clear e3;have E3':=Lib.hid e3';clear e3';go_wp2_with (at_builtin;go_must (refine p8 rfl _ _ 25 rfl (w.heap.size+1) 5 i0 (.int .u8 0) 1 1 Tryz.underlying25 hi hz0 hz1 hz2 rfl (by omega) v2 _ _ rfl (hown.alloc _) _ 1 [.int .u8 1] rfl (a6h w2 _ _) rfl (by simp[Value.oneCell']) (by simp[D9,maxLen]) (by simp[D9]) (by simp;omega) ?_);intro b3 c3 w3 hown3 hgrow3 hat3;clear hat3;have hx3:=(hx.alloc (.cells #[.int .u8 1] 5)).grown hgrow3 (fun k hk=>by have:=(hown.lt k hk).1;omega);have hc31:w3.cell? ⟨w.heap.size,1,none⟩=some (.string k):=hx3.cell 1)
  replace hb:=(hb.alloc hs (.cells #[.int .u8 1] 5)).grown hgrow3 (by simp;omega) (fun k hk=>(hown.lt k hk).1);replace hs:w.heap.size+1<=w3.heap.size:=by have:=hgrow3.size;simp at this;omega
  clear hx hown hs2;have hx:=hx3;have hown:J8 w3 (w.heap.size+1) (.slice b3 ((be seq 8).length+1) c3) (be seq 8++be 1 1):=by
   unfold J8;rw[E3.out,E3'.out];exact hown3
  clear hown3 hgrow3 hx3;refine(O5 _ (w.heap.size+1) (be seq 8++be 1 1) (k.size) 1 _ hown (by omega) (by simp[D9,G5]<;>omega) hs).mono ?_;rintro e w4 ⟨v4,rfl,hown,hbn⟩;replace hx:=hx.below hbn (by omega);replace hs:=Nat.le_trans hs hbn.size;replace hb:=hb.trans hbn;clear hbn;have hcw42:w4.cell? ⟨w.heap.size,2,none⟩=some (.string v):=hx.cell 2;go_wp2_with fail
  refine(O5 _ (w.heap.size+1) (be seq 8++be 1 1++be k.size 1) (v.size) 2 _ hown (by omega) (by simp[D9,G5]<;>omega) hs).mono ?_;rintro e w5 ⟨v5,rfl,hown,hbn⟩;replace hx:=hx.below hbn (by omega);replace hs:=Nat.le_trans hs hbn.size;replace hb:=hb.trans hbn;clear hbn;have hcw51:w5.cell? ⟨w.heap.size,1,none⟩=some (.string k):=hx.cell 1;generalize hL:be seq 8++be 1 1++be k.size 1++be v.size 2=L5 at *;have hLl:L5.length=12:=by rw[<-hL];simp[D9]
  have HL:=Lib.hid hL;clear hL;have HLl:=Lib.hid hLl;clear hLl;go_wp2_with (first|(at_builtin;refine wpList_append_text rfl _ _ 25 9 rfl (w.heap.size+1) 5 i0 Tryz.underlying25 Tryz.underlying9 hi hz0 hz1 hz2 v5 L5 rfl hown k rfl (by rw[HLl.out];unfold maxLen;omega) (by rw[HLl.out];omega) hs ?_;intro b6 c6 w6 hown6 hgrow6;have hx6:=hx.grown hgrow6 (fun k hk=>by have:=(hown.lt k hk).1;omega);have hc62:w6.cell? ⟨w.heap.size,2,none⟩=some (.string v):=hx6.cell 2;have hs6:w.heap.size+1<=w6.heap.size:=Nat.le_trans hs hgrow6.size)|(at_builtin;refine wpList_append_text rfl _ _ 25 9 rfl (w.heap.size+1) 5 i0 Tryz.underlying25 Tryz.underlying9 hi hz0 hz1 hz2 (.slice b6 (L5.length+k.size) c6) (L5++k.data.toList) rfl hown6 v rfl (by rw[List.length_append,G5,HLl.out];unfold maxLen;omega) (by rw[List.length_append,G5,HLl.out];omega) hs6 ?_;intro b7 c7 w7 hown7 hgrow7))
  replace hb:=(hb.grown hgrow6 hs (fun k hk=>(hown.lt k hk).1)).grown hgrow7 hs6 (fun k hk=>(hown6.lt k hk).1);have hs7:w.heap.size+1<=w7.heap.size:=Nat.le_trans hs6 hgrow7.size;have hI:J8 w7 (w.heap.size+1) (.slice b7 (L5.length+k.size+v.size) c7) (body seq k.data.toList v.data.toList true):=by
   rw[show(L5++k.data.toList).length=L5.length+k.size by rw[List.length_append,G5]] at hown7;rw[show L5++k.data.toList++v.data.toList=body seq k.data.toList v.data.toList true by rw[<-HL.out];simp[body,G5]] at hown7;exact hown7
  have hIl:(body seq k.data.toList v.data.toList true).length<=92:=by simp[body,D9,G5];omega
  clear hown7 hgrow7 hown6 hgrow6 hx hx6 hc62 hs6 hs;generalize Value.slice b7 (L5.length+k.size+v.size) c7=v7 at *;generalize body seq k.data.toList v.data.toList true=I at *;refine(a1F v7 I w7 hI.bytes).mono ?_;rintro e w8 ⟨rfl,rfl⟩;have hwc:IntKind.u64.wrap ((crc I:Nat):Int)=((crc I:Nat):Int):=by rw[IntKind.wrap_u64];have:=a3B I;omega
  go_wp2_with fail
  refine(O5 _ w7.heap.size [] (crc I) 4 _ (World.ownsRow_nil _ _ _ _) (by omega) (by simp) (Nat.le_refl _)).mono ?_;rintro e w9 ⟨v9,rfl,hown9,hb9⟩;rw[List.nil_append] at hown9;generalize hC:be (crc I) 4=C at *;have hCl:C.length=4:=by rw[<-hC,D9]
  have HC:=Lib.hid hC;clear hC;have HCl:=Lib.hid hCl;clear hCl;clear hwc;go_wp2_with (at_builtin;go_must (refine p8 rfl _ _ 25 rfl w7.heap.size 5 i0 (.int .u8 0) 1 1 Tryz.underlying25 hi hz0 hz1 hz2 rfl (by omega) v9 C.length _ rfl hown9 v7 I.length (I.map byteV) rfl (hI.bytes.ext hb9) (by simp) (a0j _) (by rw[HCl.out];unfold maxLen;omega) (by rw[HCl.out];omega) hb9.size ?_);intro b10 c10 w10 hown10 hgrow10 hat10;clear hat10)
  go_ret2
  refine⟨_,rfl,?_,?_⟩
  ·unfold J8;have e1:(summed I).map byteV=C.map byteV++I.map byteV:=by rw[<-List.map_append,summed,HC.out]
   have e2:(summed I).length=C.length+I.length:=by rw[summed,HC.out,List.length_append]
   rw[e1,e2];exact I6 hown10 (by omega)
  ·have h9:Below (w.heap.size+1) w7 w10:=(hb9.mono hs7).grown hgrow10 (Nat.le_trans hs7 hb9.size) (fun k hk=>by have:=(hown9.lt k hk).1;omega);exact(Below.alloc (Below.refl _ _) (Nat.le_refl _) _).trans ((hb.trans h9).mono (by omega))
 ·go_enter Tryz.func49,Tryz.ntmps49
  go_wp2_with fail
  have hx:j6 (w.alloc (.cells #[.int .u64 seq,.string k,.string v,.bool false,.int .i64 sz] 116)) w.heap.size 116 #[.int .u64 seq,.string k,.string v,.bool false,.int .i64 sz]:=heap_alloc_new w _;have hb:Below (w.heap.size+1) (w.alloc (.cells #[.int .u64 seq,.string k,.string v,.bool false,.int .i64 sz] 116)) (w.alloc (.cells #[.int .u64 seq,.string k,.string v,.bool false,.int .i64 sz] 116)):=Below.refl _ _;have hs:w.heap.size+1<=(w.alloc (.cells #[.int .u64 seq,.string k,.string v,.bool false,.int .i64 sz] 116)).heap.size:=by simp
  refine(O5 _ (w.heap.size+1) ([]) (seq) 8 _ (World.ownsRow_nil _ _ _ _) (by omega) (by simp[D9,G5]<;>omega) hs).mono ?_;rintro e w2 ⟨v2,rfl,hown,hbn⟩;replace hx:=hx.below hbn (by omega);replace hs:=Nat.le_trans hs hbn.size;replace hb:=hb.trans hbn;clear hbn;have hcw23:w2.cell? ⟨w.heap.size,3,none⟩=some (.bool false):=hx.cell 3;rw[List.nil_append] at hown;have hs2:w.heap.size+1<=w2.heap.size:=hs;have e3:(be seq 8++be 0 1).map byteV=(be seq 8).map byteV++[.int .u8 0]:=by rw[List.map_append];rfl
  have e3':(be seq 8++be 0 1).length=(be seq 8).length+1:=by simp[D9]
  have E3:=Lib.hid e3;clear e3;have E3':=Lib.hid e3';clear e3';go_wp2_with (at_builtin;go_must (refine p8 rfl _ _ 25 rfl (w.heap.size+1) 5 i0 (.int .u8 0) 1 1 Tryz.underlying25 hi hz0 hz1 hz2 rfl (by omega) v2 _ _ rfl (hown.alloc _) _ 1 [.int .u8 0] rfl (a6h w2 _ _) rfl (by simp[Value.oneCell']) (by simp[D9,maxLen]) (by simp[D9]) (by simp;omega) ?_);intro b3 c3 w3 hown3 hgrow3 hat3;clear hat3;have hx3:=(hx.alloc (.cells #[.int .u8 0] 5)).grown hgrow3 (fun k hk=>by have:=(hown.lt k hk).1;omega);have hc31:w3.cell? ⟨w.heap.size,1,none⟩=some (.string k):=hx3.cell 1)
  replace hb:=(hb.alloc hs (.cells #[.int .u8 0] 5)).grown hgrow3 (by simp;omega) (fun k hk=>(hown.lt k hk).1);replace hs:w.heap.size+1<=w3.heap.size:=by have:=hgrow3.size;simp at this;omega
  clear hx hown hs2;have hx:=hx3;have hown:J8 w3 (w.heap.size+1) (.slice b3 ((be seq 8).length+1) c3) (be seq 8++be 0 1):=by
   unfold J8;rw[E3.out,E3'.out];exact hown3
  clear hown3 hgrow3 hx3;refine(O5 _ (w.heap.size+1) (be seq 8++be 0 1) (k.size) 1 _ hown (by omega) (by simp[D9,G5]<;>omega) hs).mono ?_;rintro e w4 ⟨v4,rfl,hown,hbn⟩;replace hx:=hx.below hbn (by omega);replace hs:=Nat.le_trans hs hbn.size;replace hb:=hb.trans hbn;clear hbn;have hcw42:w4.cell? ⟨w.heap.size,2,none⟩=some (.string v):=hx.cell 2;go_wp2_with fail
  refine(O5 _ (w.heap.size+1) (be seq 8++be 0 1++be k.size 1) (v.size) 2 _ hown (by omega) (by simp[D9,G5]<;>omega) hs).mono ?_;rintro e w5 ⟨v5,rfl,hown,hbn⟩;replace hx:=hx.below hbn (by omega);replace hs:=Nat.le_trans hs hbn.size;replace hb:=hb.trans hbn;clear hbn;have hcw51:w5.cell? ⟨w.heap.size,1,none⟩=some (.string k):=hx.cell 1;generalize hL:be seq 8++be 0 1++be k.size 1++be v.size 2=L5 at *;have hLl:L5.length=12:=by rw[<-hL];simp[D9]
  have HL:=Lib.hid hL;clear hL;have HLl:=Lib.hid hLl;clear hLl;go_wp2_with (first|(at_builtin;refine wpList_append_text rfl _ _ 25 9 rfl (w.heap.size+1) 5 i0 Tryz.underlying25 Tryz.underlying9 hi hz0 hz1 hz2 v5 L5 rfl hown k rfl (by rw[HLl.out];unfold maxLen;omega) (by rw[HLl.out];omega) hs ?_;intro b6 c6 w6 hown6 hgrow6;have hx6:=hx.grown hgrow6 (fun k hk=>by have:=(hown.lt k hk).1;omega);have hc62:w6.cell? ⟨w.heap.size,2,none⟩=some (.string v):=hx6.cell 2;have hs6:w.heap.size+1<=w6.heap.size:=Nat.le_trans hs hgrow6.size)|(at_builtin;refine wpList_append_text rfl _ _ 25 9 rfl (w.heap.size+1) 5 i0 Tryz.underlying25 Tryz.underlying9 hi hz0 hz1 hz2 (.slice b6 (L5.length+k.size) c6) (L5++k.data.toList) rfl hown6 v rfl (by rw[List.length_append,G5,HLl.out];unfold maxLen;omega) (by rw[List.length_append,G5,HLl.out];omega) hs6 ?_;intro b7 c7 w7 hown7 hgrow7))
  replace hb:=(hb.grown hgrow6 hs (fun k hk=>(hown.lt k hk).1)).grown hgrow7 hs6 (fun k hk=>(hown6.lt k hk).1);have hs7:w.heap.size+1<=w7.heap.size:=Nat.le_trans hs6 hgrow7.size;have hI:J8 w7 (w.heap.size+1) (.slice b7 (L5.length+k.size+v.size) c7) (body seq k.data.toList v.data.toList false):=by
   rw[show(L5++k.data.toList).length=L5.length+k.size by rw[List.length_append,G5]] at hown7;rw[show L5++k.data.toList++v.data.toList=body seq k.data.toList v.data.toList false by rw[<-HL.out];simp[body,G5]] at hown7;exact hown7
  have hIl:(body seq k.data.toList v.data.toList false).length<=92:=by simp[body,D9,G5];omega
  clear hown7 hgrow7 hown6 hgrow6 hx hx6 hc62 hs6 hs;generalize Value.slice b7 (L5.length+k.size+v.size) c7=v7 at *;generalize body seq k.data.toList v.data.toList false=I at *;refine(a1F v7 I w7 hI.bytes).mono ?_;rintro e w8 ⟨rfl,rfl⟩;have hwc:IntKind.u64.wrap ((crc I:Nat):Int)=((crc I:Nat):Int):=by rw[IntKind.wrap_u64];have:=a3B I;omega
  go_wp2_with fail
  refine(O5 _ w7.heap.size [] (crc I) 4 _ (World.ownsRow_nil _ _ _ _) (by omega) (by simp) (Nat.le_refl _)).mono ?_;rintro e w9 ⟨v9,rfl,hown9,hb9⟩;rw[List.nil_append] at hown9;generalize hC:be (crc I) 4=C at *;have hCl:C.length=4:=by rw[<-hC,D9]
  have HC:=Lib.hid hC;clear hC;have HCl:=Lib.hid hCl;clear hCl;clear hwc;go_wp2_with (at_builtin;go_must (refine p8 rfl _ _ 25 rfl w7.heap.size 5 i0 (.int .u8 0) 1 1 Tryz.underlying25 hi hz0 hz1 hz2 rfl (by omega) v9 C.length _ rfl hown9 v7 I.length (I.map byteV) rfl (hI.bytes.ext hb9) (by simp) (a0j _) (by rw[HCl.out];unfold maxLen;omega) (by rw[HCl.out];omega) hb9.size ?_);intro b10 c10 w10 hown10 hgrow10 hat10;clear hat10)
  go_ret2
  refine⟨_,rfl,?_,?_⟩
  ·unfold J8;have e1:(summed I).map byteV=C.map byteV++I.map byteV:=by rw[<-List.map_append,summed,HC.out]
   have e2:(summed I).length=C.length+I.length:=by rw[summed,HC.out,List.length_append]
   rw[e1,e2];exact I6 hown10 (by omega)
  ·have h9:Below (w.heap.size+1) w7 w10:=(hb9.mono hs7).grown hgrow10 (Nat.le_trans hs7 hb9.size) (fun k hk=>by have:=(hown9.lt k hk).1;omega);exact(Below.alloc (Below.refl _ _) (Nat.le_refl _) _).trans ((hb.trans h9).mono (by omega))
end
section
open Go.RowKit Go.Lib Pl
def V7:Value:=.agg #[.int .u64 0,.string ⟨#[]⟩,.string ⟨#[]⟩,.bool false,.int .i64 0]
def I7:Option Rec->Value
 | none=>.tuple #[V7,.bool false]
 | some r=>.tuple #[.agg #[.int .u64 r.seq,.string ⟨r.key.toArray⟩,.string ⟨r.val.toArray⟩,.bool r.del,.int .i64 r.size],.bool true]
def c0g(r:Option Rec)(w:World)(e:Ending)(w':World):Prop:=e=.returned (I7 r)/\Ext w w'
theorem c1S(b:UInt8):num [b]=b.toNat:=by simp[num]
theorem c3O{l:List UInt8}{k:Nat}(h:k<l.length):(l.drop k).take 1=[l[k]]:=by
 rw[List.drop_eq_getElem_cons h];rfl
theorem Bytes.at{w:World}{ad:Addr}{cap:Nat}{l:List UInt8}(h:Bytes w (.slice (some ad) l.length cap) l)(k:Nat)(hk:k<l.length):w.cell? (ad.add k)=some (.int .u8 (num ((l.drop k).take 1))):=by
 obtain⟨a',c,hv,h1,h2,h3⟩:=h;injection hv with ha;obtain⟨b,hb,hc⟩:=h3 (by intro e;simp at e;subst e;simp at hk);rw[hb] at ha;injection ha with ha;subst ha;rw[c3O hk,c1S];exact hc k _ (by rw[List.getElem?_map,List.getElem?_eq_getElem hk];rfl)
theorem a9m(v:Value)(l:List UInt8)(w:World)(h:Bytes w v l):
 Calls Tryz.prog 125 #[v] w (c0g (dec l) w):=by
 have HD:good l=false->dec l=none:=by intro h;unfold dec;rw[h];rfl
 obtain⟨a,cap,rfl,h1,h2,h3⟩:=id h;clear h3;by_cases c0:l.length<16
 ·have hd:dec l=none:=HD (by unfold good;rw[decide_eq_false (by omega)];rfl);clear h;go_enter Tryz.func125,Tryz.ntmps125
  go_wp2;refine bodyPost_ret (v:=I7 none) ?_ rfl ⟨by first|rfl|rw[hd],?_⟩
  ·simp[results,Tryz.results125,go_sem,I7,V7]
  ·exact((Ext.refl w).new _).new _
 obtain⟨ad,rfl⟩:∃ad,a=some ad:=by
  cases a with
  | none=>have:=h2.2 rfl;omega
  | some ad=>exact⟨ad,rfl⟩
 have hc12:w.cell? ⟨ad.block,ad.off+12,none⟩=some (.int .u8 (K3 l)):=h.at 12 (by omega);have hc13:w.cell? ⟨ad.block,ad.off+13,none⟩=some (.int .u8 (p9 l)):=h.at 13 (by omega);have HB:=Lib.hid h;clear h;have h16:16<=l.length:=by omega
 have hk256:p9 l<256:=I9 (l.drop 13) 1;have hf256:K3 l<256:=I9 (l.drop 12) 1;have hv256:D6 l<65536:=I9 (l.drop 14) 2;have hm1:num (l.take 4)<4294967296:=I9 l 4;have hwk:IntKind.i64.wrap (p9 l:Int)=(p9 l:Int):=IntWalk.i64_in _ (by omega);have hwv:IntKind.i64.wrap (D6 l:Int)=(D6 l:Int):=IntWalk.i64_in _ (by omega);have hsl:∀W:World,Ext w W->∀i j,0<i->i<=j->j<=l.length->i<cap->Bytes W (.slice (some ⟨ad.block,ad.off+i,none⟩) (j - i) (cap - i)) ((l.take j).drop i):=by
  intro W hW i j h0 hij hj hc;have:=(HB.out.ext hW).sliced i j hij hj;rw[if_neg (by omega)] at this;have e:(some ad).map (·.add i)=some ⟨ad.block,ad.off+i,none⟩:=by
   show some (ad.add i)=_;unfold Addr.add;rw[if_neg (by omega)]
  rw[e] at this;exact this
 have HS:=Lib.hid hsl;clear hsl;have hE0:Ext w ((w.alloc (.cells #[.int .u64 0,.string ⟨#[]⟩,.string ⟨#[]⟩,.bool false,.int .i64 0] 116)).alloc (.cells #[.int .u64 0,.string ⟨#[]⟩,.string ⟨#[]⟩,.bool false,.int .i64 0] 116)):=((Ext.refl w).new _).new _;have X:j6 ((w.alloc (.cells #[.int .u64 0,.string ⟨#[]⟩,.string ⟨#[]⟩,.bool false,.int .i64 0] 116)).alloc (.cells #[.int .u64 0,.string ⟨#[]⟩,.string ⟨#[]⟩,.bool false,.int .i64 0] 116)) w.heap.size 116 #[.int .u64 0,.string ⟨#[]⟩,.string ⟨#[]⟩,.bool false,.int .i64 0]:=(j6.new _ _ rfl).alloc _;have Y:j6 ((w.alloc (.cells #[.int .u64 0,.string ⟨#[]⟩,.string ⟨#[]⟩,.bool false,.int .i64 0] 116)).alloc (.cells #[.int .u64 0,.string ⟨#[]⟩,.string ⟨#[]⟩,.bool false,.int .i64 0] 116)) (w.heap.size+1) 116 #[.int .u64 0,.string ⟨#[]⟩,.string ⟨#[]⟩,.bool false,.int .i64 0]:=j6.new _ _ (by simp);have hd12:=hE0.cell hc12;have hd13:=hE0.cell hc13;go_enter Tryz.func125,Tryz.ntmps125
 go_wp2_with fail
 refine(M8 _ ((l.take 16).drop 14) _ (HS.out _ hE0 14 16 (by omega) (by omega) (by omega) (by omega)) (by simp;omega)).mono ?_;rintro e W ⟨rfl,hw⟩;rw[hw] at hE0 X Y hd12 hd13;clear hw;have ev:num ((l.take 16).drop 14)=D6 l:=by unfold D6;rw[List.drop_take]
 rw[ev];clear ev;have yc0:=Y.cell 0;have yc1:=Y.cell 1;have yc2:=Y.cell 2;have yc3:=Y.cell 3;have yc4:=Y.cell 4;have xc0:=X.cell 0;have xf0:=X.free 0;have xc1:=X.cell 1;have xf1:=X.free 1;have xc2:=X.cell 2;have xf2:=X.free 2;have xc3:=X.cell 3;have xf3:=X.free 3;have xc4:=X.cell 4;have xf4:=X.free 4;by_cases c1:l.length<16+p9 l+D6 l
 ·have hd:dec l=none:=HD (by unfold good;rw[decide_eq_false (by omega)];rfl);go_wp2;refine bodyPost_ret (v:=I7 none) ?_ rfl ⟨by first|rfl|rw[hd],?_⟩
  ·simp[results,Tryz.results125,go_sem,I7,V7,xc0,xc1,xc2,xc3,xc4]
  ·repeat' refine Ext.setN ?_ (by simp)
   exact hE0
 have hcap:16+p9 l+D6 l<=cap:=by omega
 go_wp2_with fail
 refine(a1F _ ((l.take (16+p9 l+D6 l)).drop 4) _ (HS.out _ hE0 4 (16+p9 l+D6 l) (by omega) (by omega) (by omega) (by omega))).mono ?_;rintro e W' ⟨rfl,rfl⟩;have hq:Bytes W (.slice (some ad) 4 cap) (l.take 4):=by
  have:=(HB.out.ext hE0).sliced 0 4 (by omega) (by omega);rw[if_neg (by omega)] at this;exact this
 go_wp2_with fail
 refine(M8 _ (l.take 4) _ hq (by simp;omega)).mono ?_;rintro e W' ⟨rfl,rfl⟩;have hwc:IntKind.u64.wrap (crc ((l.take (16+p9 l+D6 l)).drop 4):Int)=(crc ((l.take (16+p9 l+D6 l)).drop 4):Int):=by
  have:=a3B ((l.take (16+p9 l+D6 l)).drop 4);rw[IntKind.wrap_u64];omega
 by_cases hcr:crc ((l.take (16+p9 l+D6 l)).drop 4)=num (l.take 4)
 case neg=>
  have hcr':((num (l.take 4):Int) != (crc ((l.take (16+p9 l+D6 l)).drop 4):Int))=true:=by rw[bne,beq_eq_false_iff_ne.2 (by omega)];rfl
  have hd:dec l=none:=HD (by unfold good;rw[decide_eq_false hcr];simp);go_wp2;refine bodyPost_ret (v:=I7 none) ?_ rfl ⟨by first|rfl|rw[hd],?_⟩
  ·simp[results,Tryz.results125,go_sem,I7,V7,xc0,xc1,xc2,xc3,xc4]
  ·repeat' refine Ext.setN ?_ (by simp)
   exact hE0
 have hcr':((num (l.take 4):Int) != (crc ((l.take (16+p9 l+D6 l)).drop 4):Int))=false:=by rw[bne,beq_iff_eq.2 (by omega)];rfl
 by_cases c2:1<K3 l
 ·have hd:dec l=none:=HD (by unfold good;rw[show decide (K3 l<=1)=false from decide_eq_false (by omega)];simp);go_wp2;refine bodyPost_ret (v:=I7 none) ?_ rfl ⟨by first|rfl|rw[hd],?_⟩
  ·simp[results,Tryz.results125,go_sem,I7,V7,xc0,xc1,xc2,xc3,xc4]
  ·repeat' refine Ext.setN ?_ (by simp)
   exact hE0
 by_cases c3:p9 l<1
 ·have hd:dec l=none:=HD (by unfold good;rw[show decide (1<=p9 l)=false from decide_eq_false (by omega)];simp);have hk0:((p9 l:Int)==0)=true:=beq_iff_eq.2 (by omega);go_wp2;refine bodyPost_ret (v:=I7 none) ?_ rfl ⟨by first|rfl|rw[hd],?_⟩
  ·simp[results,Tryz.results125,go_sem,I7,V7,xc0,xc1,xc2,xc3,xc4]
  ·repeat' refine Ext.setN ?_ (by simp)
   exact hE0
 have hk0:((p9 l:Int)==0)=false:=beq_eq_false_iff_ne.2 (by omega);by_cases c4:16<p9 l
 ·have hd:dec l=none:=HD (by unfold good;rw[show decide (p9 l<=16)=false from decide_eq_false (by omega)];simp);go_wp2;refine bodyPost_ret (v:=I7 none) ?_ rfl ⟨by first|rfl|rw[hd],?_⟩
  ·simp[results,Tryz.results125,go_sem,I7,V7,xc0,xc1,xc2,xc3,xc4]
  ·repeat' refine Ext.setN ?_ (by simp)
   exact hE0
 by_cases c5:64<D6 l
 ·have hd:dec l=none:=HD (by unfold good;rw[show decide (D6 l<=64)=false from decide_eq_false (by omega)];simp);go_wp2;refine bodyPost_ret (v:=I7 none) ?_ rfl ⟨by first|rfl|rw[hd],?_⟩
  ·simp[results,Tryz.results125,go_sem,I7,V7,xc0,xc1,xc2,xc3,xc4]
  ·repeat' refine Ext.setN ?_ (by simp)
   exact hE0
 by_cases c6:K3 l=1/\0<D6 l
 ·have hd:dec l=none:=HD (by unfold good;rw[show decide (K3 l=1)=true from decide_eq_true c6.1,show decide (0<D6 l)=true from decide_eq_true c6.2];simp);have hf1:((K3 l:Int)==1)=true:=beq_iff_eq.2 (by omega);have hv0:=c6.2;go_wp2;refine bodyPost_ret (v:=I7 none) ?_ rfl ⟨by first|rfl|rw[hd],?_⟩
  ·simp[results,Tryz.results125,go_sem,I7,V7,xc0,xc1,xc2,xc3,xc4]
  ·repeat' refine Ext.setN ?_ (by simp)
   exact hE0
 by_cases hf:K3 l=1
 ·have hv0:¬0<D6 l:=fun h=>c6 ⟨hf,h⟩;have hf1:((K3 l:Int)==1)=true:=beq_iff_eq.2 (by omega);have hdec:dec l=some ⟨num ((l.drop 4).take 8),(l.drop 16).take (p9 l),(l.drop (16+p9 l)).take (D6 l),true,16+p9 l+D6 l⟩:=by
   unfold dec;rw[if_pos (by unfold good;rw[decide_eq_true (show 16+p9 l+D6 l<=l.length by omega),decide_eq_true hcr,decide_eq_true (show K3 l<=1 by omega),decide_eq_true (show 1<=p9 l by omega),decide_eq_true (show p9 l<=16 by omega),decide_eq_true (show D6 l<=64 by omega),decide_eq_false (show ¬0<D6 l by omega),Bool.and_false];rfl)];simp[hf]
  go_wp2_with fail
  refine(M8 _ ((l.take 12).drop 4) _ (HS.out _ hE0 4 12 (by omega) (by omega) (by omega) (by omega)) (by simp;omega)).mono ?_;rintro e W' ⟨rfl,rfl⟩;go_wp2_with fail
  have hE1:Ext w W.drew:=Ext.trans hE0 (Ext.drewN W 1);have hq1:=K7 (HS.out _ hE1 16 (16+p9 l) (by omega) (by omega) (by omega) (by omega));have hq1':=K7 (HS.out _ hE1 16 (16+p9 l) (by omega) (by omega) (by omega) (by omega));rw[show 16+p9 l - 16=p9 l by omega] at hq1;have hq2:=K7 ((HB.out.ext hE1).sliced (16+p9 l) (16+p9 l+D6 l) (by omega) (by omega));by_cases hcc:cap=16+p9 l
  ·rw[if_pos hcc] at hq2;have hq2':=hq2;rw[show 16+p9 l+D6 l - (16+p9 l)=D6 l by omega] at hq2';have hcT:(cap=16+p9 l)=True:=eq_true hcc;clear hcc;go_region
   go_wp2;all_goals
    refine bodyPost_ret (v:=I7 (some ⟨num ((l.drop 4).take 8),(l.drop 16).take (p9 l),(l.drop (16+p9 l)).take (D6 l),true,16+p9 l+D6 l⟩)) ?_ rfl ⟨?_,?_⟩
    ·simp[results,Tryz.results125,go_sem,I7,V7,xc0,xc1,xc2,xc3,xc4,List.drop_take]
    ·first|rfl|rw[hdec]
    ·refine Ext.trans ?_ (Ext.drewN _ 1);repeat' refine Ext.setN ?_ (by simp)
     exact hE0
  ·rw[if_neg hcc] at hq2;have e:(some ad).map (·.add (16+p9 l))=some (ad.add (16+p9 l)):=rfl;rw[e] at hq2;have hq2':=hq2;rw[show 16+p9 l+D6 l - (16+p9 l)=D6 l by omega] at hq2';go_region
   go_wp2;all_goals
    refine bodyPost_ret (v:=I7 (some ⟨num ((l.drop 4).take 8),(l.drop 16).take (p9 l),(l.drop (16+p9 l)).take (D6 l),true,16+p9 l+D6 l⟩)) ?_ rfl ⟨?_,?_⟩
    ·simp[results,Tryz.results125,go_sem,I7,V7,xc0,xc1,xc2,xc3,xc4,List.drop_take]
    ·first|rfl|rw[hdec]
    ·refine Ext.trans ?_ (Ext.drewN _ 1);repeat' refine Ext.setN ?_ (by simp)
     exact hE0
 ·have hf1:((K3 l:Int)==1)=false:=beq_eq_false_iff_ne.2 (by omega);have hdec:dec l=some ⟨num ((l.drop 4).take 8),(l.drop 16).take (p9 l),(l.drop (16+p9 l)).take (D6 l),false,16+p9 l+D6 l⟩:=by
   unfold dec;rw[if_pos (by unfold good;rw[decide_eq_true (show 16+p9 l+D6 l<=l.length by omega),decide_eq_true hcr,decide_eq_true (show K3 l<=1 by omega),decide_eq_true (show 1<=p9 l by omega),decide_eq_true (show p9 l<=16 by omega),decide_eq_true (show D6 l<=64 by omega),decide_eq_false hf];rfl)];simp[hf]
  go_wp2_with fail
  refine(M8 _ ((l.take 12).drop 4) _ (HS.out _ hE0 4 12 (by omega) (by omega) (by omega) (by omega)) (by simp;omega)).mono ?_;rintro e W' ⟨rfl,rfl⟩;go_wp2_with fail
  have hE1:Ext w W.drew:=Ext.trans hE0 (Ext.drewN W 1);have hq1:=K7 (HS.out _ hE1 16 (16+p9 l) (by omega) (by omega) (by omega) (by omega));have hq1':=K7 (HS.out _ hE1 16 (16+p9 l) (by omega) (by omega) (by omega) (by omega));rw[show 16+p9 l - 16=p9 l by omega] at hq1;have hq2:=K7 ((HB.out.ext hE1).sliced (16+p9 l) (16+p9 l+D6 l) (by omega) (by omega));by_cases hcc:cap=16+p9 l
  ·rw[if_pos hcc] at hq2;have hq2':=hq2;rw[show 16+p9 l+D6 l - (16+p9 l)=D6 l by omega] at hq2';have hcT:(cap=16+p9 l)=True:=eq_true hcc;clear hcc;go_region
   go_wp2;all_goals
    refine bodyPost_ret (v:=I7 (some ⟨num ((l.drop 4).take 8),(l.drop 16).take (p9 l),(l.drop (16+p9 l)).take (D6 l),false,16+p9 l+D6 l⟩)) ?_ rfl ⟨?_,?_⟩
    ·simp[results,Tryz.results125,go_sem,I7,V7,xc0,xc1,xc2,xc3,xc4,List.drop_take]
    ·first|rfl|rw[hdec]
    ·refine Ext.trans ?_ (Ext.drewN _ 1);repeat' refine Ext.setN ?_ (by simp)
     exact hE0
  ·rw[if_neg hcc] at hq2;have e:(some ad).map (·.add (16+p9 l))=some (ad.add (16+p9 l)):=rfl;rw[e] at hq2;have hq2':=hq2;rw[show 16+p9 l+D6 l - (16+p9 l)=D6 l by omega] at hq2';go_region
   go_wp2;all_goals
    refine bodyPost_ret (v:=I7 (some ⟨num ((l.drop 4).take 8),(l.drop 16).take (p9 l),(l.drop (16+p9 l)).take (D6 l),false,16+p9 l+D6 l⟩)) ?_ rfl ⟨?_,?_⟩
    ·simp[results,Tryz.results125,go_sem,I7,V7,xc0,xc1,xc2,xc3,xc4,List.drop_take]
    ·first|rfl|rw[hdec]
    ·refine Ext.trans ?_ (Ext.drewN _ 1);repeat' refine Ext.setN ?_ (by simp)
     exact hE0
end
section
open Go.RowKit Go.Lib Pl
def c3s(b:Bool)(w:World)(e:Ending)(w':World):Prop:=e=.returned (.bool b)/\∃n,w'=w.drewN n
theorem drewN_drewN(w:World)(a b:Nat):(w.drewN a).drewN b=w.drewN (a+b):=by
 induction b with
 | zero=>rfl
 | succ b ih=>show((w.drewN a).drewN b).drew=(w.drewN (a+b)).drew;rw[ih]
theorem b9m{α:Type}{l m:List α}{k:Nat}(hk:k<l.length)(hm:k<m.length)(h:l[k]≠m[k]):l≠m:=by
 rintro rfl;exact h rfl
theorem b3R{α:Type}{l m:List α}{k:Nat}(h:l.take k=m.take k)(hk:k<l.length)(hm:k<m.length)(e:l[k]=m[k]):l.take (k+1)=m.take (k+1):=by
 rw[L8 l k hk,L8 m k hm,h,e]
theorem a7k(v u:Value)(l m:List Int)(w:World)(h:Ints w v l)(h':Ints w u m):
 Calls Tryz.prog 27 #[v,u] w (c3s (decide (l=m)) w):=by
 obtain⟨a,cap,rfl,hc,hc',-⟩:=h.open;obtain⟨a2,cap2,rfl,hd,hd',-⟩:=h'.open;have H:=Lib.hid h;have H':=Lib.hid h';clear h h';by_cases hl:l.length=m.length
 ·have hl':((l.length:Int) != (m.length:Int))=false:=by rw[bne,beq_iff_eq.2 (by omega)];rfl
  go_enter Tryz.func27,Tryz.ntmps27
  go_wp2;go_loopw [5] (fun i w'=>∃k:Nat,k<=l.length/\i=.int .i64 k/\l.take k=m.take k/\∃n,w'=w.drewN n) (fun i _=>l.length - (intOf i).toNat)
  case atStart=>exact⟨0,Nat.zero_le _,rfl,rfl,0,rfl⟩
  case round=>
   obtain⟨k,hk,rfl,ht,n,rfl⟩:=hrel;by_cases hlt:k<l.length
   ·have hx:=H.out.ext (Ext.drewN w n);have hy:=H'.out.ext (Ext.drewN w n);obtain⟨b,rfl,hb⟩:∃b,a=some b/\(w.drewN n).cell? (b.add k)=some (.int .i64 (l[k])):=by
     obtain⟨a',c',e,_,_,hf⟩:=hx.open;injection e with e1;subst e1;exact hf k hlt
    obtain⟨b2,rfl,hb2⟩:∃b,a2=some b/\(w.drewN n).cell? (b.add k)=some (.int .i64 (m[k]'(by omega))):=by
     obtain⟨a',c',e,_,_,hf⟩:=hy.open;injection e with e1;subst e1;exact hf k (by omega)
    clear hx hy;have hkm:k<m.length:=by omega
    have Ht:=Lib.hid ht;clear ht;by_cases he:l[k]=m[k]
    ·have he':(l[k] != m[k])=false:=by rw[bne,beq_iff_eq.2 he];rfl
     have Hn:Hid (l.take (k+1)=m.take (k+1)):=b3R Ht.out hlt hkm he;clear he;generalize hwn:w.drewN n=wn at *;go_wp2;go_quiet (fail)
     go_wp2;go_roundw
     case rel=>exact⟨k+1,by omega,by go_num,Hn.out,n+nq,by rw[<-hwn,drewN_drewN]⟩
     case measure=>simp[intOf];omega
    ·have hne:l[k]≠m[k]:=he;have he':(l[k] != m[k])=true:=by rw[bne,beq_eq_false_iff_ne.2 hne];rfl
     clear hne;have Hd:Hid (l≠m):=b9m hlt hkm he;clear he;generalize hwn:w.drewN n=wn at *;go_wp2;go_quiet (fail)
     go_wp2;go_ret;exact⟨by rw[decide_eq_false Hd.out];rfl,n+nq,by rw[<-hwn,drewN_drewN]⟩
   ·go_wp2;go_ret;have:l=m:=by
     have h1:=List.take_of_length_le (l:=l) (i:=k) (by omega);have h2:=List.take_of_length_le (l:=m) (i:=k) (by omega);rw[<-h1,<-h2];exact ht
    exact⟨by rw[decide_eq_true this];rfl,n,rfl⟩
 ·have hl':((l.length:Int) != (m.length:Int))=true:=by rw[bne,beq_eq_false_iff_ne.2 (by omega)];rfl
  go_enter Tryz.func27,Tryz.ntmps27
  go_wp2;go_ret;exact⟨by rw[decide_eq_false (by rintro rfl;exact hl rfl)];rfl,0,rfl⟩
theorem b05(n:Int)(w:World):Calls Tryz.prog 18 #[.int .i64 n] w fun e w'=>e=.returned (.int .i64 n)/\w=w':=by
 go_enter Tryz.func18,Tryz.ntmps18
 go_wp2;go_ret;exact⟨rfl,rfl⟩
theorem b3S(seq:Nat)(k v:ByteArray)(d:Bool)(w:World):
 Calls Tryz.prog 48 #[c3i seq k v d] w fun e w'=>e=.returned (a7p seq k v d 0)/\Ext w w':=by
 unfold c3i;go_enter Tryz.func48,Tryz.ntmps48
 go_wp2;refine bodyPost_ret (v:=a7p seq k v d 0) (by simp[results,Tryz.results48,go_sem,a7p]) rfl ⟨rfl,((Ext.refl w).new _).new _⟩
end
section
open Go.RowKit Go.Lib Go.Maps Dk
def O4(p:Nm×Value):List Value:=[strV p.1,p.2]
def a2E(w:World)(v:Value)(l:Fl):Prop:=
 ∃(a:Option Addr)(cap:Nat)(rows:List (Nm×Value)),v=.slice a l.length cap/\l.length<=cap/\cap<=9223372036854775807/\rows.length=l.length/\
  (∀(i:Nat)p,rows[i]?=some p->∃g,a=some ⟨g,0,none⟩/\w.cell? ⟨g,i*2,none⟩=some (strV p.1)/\w.cell? ⟨g,i*2+1,none⟩=some p.2)/\
  ∀(i:Nat)p q,rows[i]?=some p->l[i]?=some q->p.1=q.1/\Bytes w p.2 q.2
theorem b5h(rows:List (Nm×Value))(i:Nat)(p:Nm×Value)(h:rows[i]?=some p)(j:Nat)(hj:j<2):(rows.flatMap O4)[2*i+j]?=(O4 p)[j]?:=by
 induction rows generalizing i with
 | nil=>simp at h
 | cons y l ih=>
  rw[List.flatMap_cons]
  cases i with
  | zero=>
   simp at h;subst h
   rw[List.getElem?_append_left (by simp[O4];omega)];simp
  | succ i=>
   simp at h;rw[List.getElem?_append_right (by simp[O4];omega),show 2*(i+1)+j - (O4 y).length=2*i+j by simp[O4];omega];exact ih i h
def a1x(w:World)(B:Nat)(v:Value)(rows:List (Nm×Value))(l:Fl):Prop:=
 w.ownsRow B 77 2 v rows.length (rows.flatMap O4)/\rows.length=l.length/\∀(i:Nat)p q,rows[i]?=some p->l[i]?=some q->p.1=q.1/\J8 w B p.2 q.2
theorem a1x.files{w:World}{B:Nat}{v:Value}{rows:List (Nm×Value)}{l:Fl}(h:a1x w B v rows l):a2E w v l:=by
 obtain⟨h1,h2,h3⟩:=h;have hm:maxLen<=9223372036854775807:=by unfold maxLen;omega
 rcases h1.2 with⟨rfl,h0⟩|⟨g,cap,cur,rfl,_,hb,h4,h5,h6,h7⟩
 ·refine⟨none,0,rows,by rw[<-h2,h0],by omega,by omega,h2,fun i p hp=>?_,fun i p q hp hq=>⟨(h3 i p q hp hq).1,(h3 i p q hp hq).2.bytes⟩⟩;have:=(List.getElem?_eq_some_iff.1 hp).1;omega
 ·refine⟨some ⟨g,0,none⟩,cap,rows,by rw[h2],by omega,by omega,h2,fun i p hp=>⟨g,rfl,?_,?_⟩,fun i p q hp hq=>⟨(h3 i p q hp hq).1,(h3 i p q hp hq).2.bytes⟩⟩
  ·have e:=b5h rows i p hp 0 (by omega);rw[<-h7,List.getElem?_take] at e;split at e
   ·simp only[World.cell?,hb];rw[show i*2=2*i+0 by omega];simpa [O4] using e
   ·simp[O4] at e
  ·have e:=b5h rows i p hp 1 (by omega);rw[<-h7,List.getElem?_take] at e;split at e
   ·simp only[World.cell?,hb];rw[show i*2+1=2*i+1 by omega];simpa [O4] using e
   ·simp[O4] at e
theorem a1x.keep{w w':World}{B:Nat}{v:Value}{rows:List (Nm×Value)}{l:Fl}(h:a1x w B v rows l)(hk:∀b,B<=b->b<w.heap.size->w'.heap[b]?=w.heap[b]?):a1x w' B v rows l:=by
 obtain⟨h1,h2,h3⟩:=h;refine⟨Dep.row h1 w' fun b hb=>hk b (h1.lt b hb).1 (h1.lt b hb).2,h2,fun i p q hp hq=>⟨(h3 i p q hp hq).1,?_⟩⟩;have ho:=(h3 i p q hp hq).2;exact Dep.row ho w' fun b hb=>hk b (World.ownsRow.lt ho b hb).1 (World.ownsRow.lt ho b hb).2
theorem b2f.keep{w w':World}{B:Nat}{v:Value}{l:List Nm}(h:b2f w B v l)(hk:∀b,B<=b->b<w.heap.size->w'.heap[b]?=w.heap[b]?):b2f w' B v l:=
 Dep.row h w' fun b hb=>hk b (World.ownsRow.lt h b hb).1 (World.ownsRow.lt h b hb).2
theorem a1x.nil(w:World)(B:Nat):a1x w B (.slice none 0 0) [] []:=⟨⟨rfl,Or.inl ⟨rfl,rfl⟩⟩,rfl,by simp⟩
theorem Chg.grown{F:Nat->Prop}{w w1 w2:World}{row:Option Nat}(h:Chg F F w w1)(hg:w1.grownBy w2 row)(hr:∀k,row=some k->w.heap.size<=k):Chg F F w w2:=
 ⟨hg.os.trans h.os,hg.tape.trans h.tape,hg.output.trans h.output,Nat.le_trans h.size hg.size,fun b hb hF=>(hg.block b (Nat.lt_of_lt_of_le hb h.size) (fun e=>by have:=hr b e.symm;omega)).trans (h.block b hb hF),fun b hb=>.inl hb⟩
theorem b2f.cell{w:World}{B:Nat}{v:Value}{l:List Nm}(h:b2f w B v l){k:Nat}{n:Nm}(hk:l[k]?=some n):∃b c,v=.slice (some ⟨b,0,none⟩) l.length c/\w.cell? ⟨b,k,none⟩=some (strV n):=by
 obtain⟨h1,h2⟩:=h;have hkl:k<l.length:=(List.getElem?_eq_some_iff.1 hk).1;rcases h2 with⟨rfl,h0⟩|⟨g,cap,cur,rfl,_,hb,h3,h4,h5,h6⟩
 ·omega
 ·refine⟨g,cap,rfl,?_⟩;have e:(l.map strV)[k]?=some (strV n):=by rw[List.getElem?_map,hk];rfl
  rw[<-h6,List.getElem?_take] at e;split at e
  ·simp only[World.cell?,hb];simpa using e
  ·cases e
theorem b6n:(Tryz.prog.info? 77).map (fun i=>(i.zero,i.size,i.bytes))=some (some (.agg #[.string ⟨#[]⟩,.slice none 0 0]),2,40):=by kernel_rfl
theorem a7W(d:D)(n:Nm)(h:n∈d.list):∃b,d.file n=some b:=by
 cases e:d.file n with
 | none=>
  unfold D.file at e;rw[Option.map_eq_none_iff,J5,<-a2c] at e
  exact absurd h e
 | some b=>exact⟨b,rfl⟩
theorem b5i{d:D}(hw:d.Wf){c:Nat}(hds:∀x∈d.ids,(d.node x).data.length<=c){n:Nm}{b:List UInt8}(h:d.file n=some b):b.length<=c:=by
 unfold D.file at h;obtain⟨x,hx,rfl⟩:=Option.map_eq_some_iff.1 h;exact hds x (hw.now _ (a0i hx))
def c3j(F:Nat->Prop)(a:Nat)(d:D)(w:World)(e:Ending)(w':World):Prop:=
 ∃v rows,e=.returned v/\a1x w' w.heap.size v rows d.files/\o8 w' F a d/\Chg F F w w'
theorem b6o(F:Nat->Prop)(a:Nat)(d:D)(w:World)(h:o8 w F a d)(hc:d.Calm)(hnl:d.now.length<=32768)(hds:∀x∈d.ids,(d.node x).data.length<=35184372088832)(hnm:∀p∈d.now,p.1.length<=maxLen):
 Calls Tryz.prog 16 #[l7 a] w (c3j F a d w):=by
 have hlist:=b8S F a d w h hnl;have hlow:=h.low;have hll:d.list.length<=32768:=by unfold D.list;simpa using hnl
 have hnm':∀n∈d.list,n.length<=maxLen:=by
  intro n hn;rw[a2c] at hn;obtain⟨p,hp,rfl⟩:=List.mem_map.1 hn;exact hnm p hp
 obtain⟨i0,hi,hz0,hz1,hz2⟩:=info_parts b6n;have HL:=Lib.hid hlist;have HD:=Lib.hid h;have HLOW:=Lib.hid hlow;have HDS:=Lib.hid hds;have HNM:=Lib.hid hnm';have HC:=Lib.hid hc;have HW:=Lib.hid h.wf;clear hlist h hlow hds hnm hnm' hc;unfold l7 at HL;show Calls Tryz.prog 16 #[.pointer (some ⟨a,0,none⟩)] w (c3j F a d w);go_enter Tryz.func16,Tryz.ntmps16
 go_wp2_with fail
 refine HL.out.mono ?_;rintro e w1 ⟨nv,rfl,hN,hE⟩;have HN:=Lib.hid hN;have HE:=Lib.hid hE;clear hN hE HL;go_wp2;go_loopw [3,5] (fun u i wr=>∃(k:Nat)(rows:List (Nm×Value)),k<=d.list.length/\i=.int .i64 k/\a1x wr w.heap.size u rows (d.files.take k)/\b2f wr w.heap.size nv d.list/\o8 wr F a d/\Chg F F w wr) (fun _ i _=>d.list.length - (intOf i).toNat)
 case atStart=>exact⟨0,[],Nat.zero_le _,rfl,a1x.nil _ _,HN.out,HD.out.ext HE.out,Chg.ext HE.out⟩
 case round=>
  obtain⟨k,rows,hk,rfl,hR,hNr,hD,hC⟩:=hrel;obtain⟨na,nc,hnv⟩:=ownsRow_form hNr;obtain⟨ua,uc,hu⟩:=ownsRow_form hR.1;have hrl:rows.length<=32768:=by have:=hR.2.1;rw[List.length_take] at this;omega
  by_cases hlt:k<d.list.length
  ·obtain⟨nm,hm⟩:∃nm,d.list[k]?=some nm:=⟨_,List.getElem?_eq_getElem hlt⟩;have hmem:nm∈d.list:=List.mem_of_getElem? hm;obtain⟨fb,hfb⟩:=a7W d nm hmem;have hfl:=b5i HW.out HDS.out hfb;obtain⟨nb,nc',hnv',hcell⟩:=hNr.cell hm;have hsize:=b2h F a d nm wr hD (HNM.out nm hmem);rw[HC.out.size,hfb] at hsize;subst hnv';have hlow2:∀b,F b->b<w.heap.size:=HLOW.out;have hkeep:∀(x y:World),Chg F F x y->∀b,w.heap.size<=b->b<x.heap.size->y.heap[b]?=x.heap[b]?:=fun x y hxy b hb hbx=>hxy.block b hbx (fun hF=>by have:=hlow2 b hF;omega);have HS:=Lib.hid hsize;have HR:=Lib.hid hR;have HNR:=Lib.hid hNr;have HCC:=Lib.hid hC;have HFB:=Lib.hid hfb;have HK:=Lib.hid hkeep;have HM:=Lib.hid hm;have HNM2:=Lib.hid (HNM.out nm hmem);clear hsize hR hNr hD hC hfb hkeep hm hnv hlow2;unfold strV at hcell;unfold l7 strV at HS;subst hu;go_wp2_with fail
   refine HS.out.mono ?_;rintro e w2 ⟨v2,rfl,_,hD2,hC2⟩;have hR2:=HR.out.keep (HK.out _ _ hC2);have hN2:=HNR.out.keep (HK.out _ _ hC2);have hrd:=a7T F a d nm 0 (fb.length:Int) w2 hD2 HNM2.out (by omega) (by omega) (fun x hx=>Nat.le_trans (HDS.out x hx) (by omega));rw[HC.out.readAt,HFB.out] at hrd;simp only[b1V] at hrd;obtain⟨nb2,nc2,hnv2,hcell2⟩:=hN2.cell HM.out;injection hnv2 with e1 e2 e3;injection e1 with e1;injection e1 with e1;subst e1;subst e3;have HRD:=Lib.hid hrd;have HC2:=Lib.hid (HCC.out.trans hC2);have HR2:=Lib.hid hR2;have HN2:=Lib.hid hN2;clear hrd hC2 hR2 hN2 hcell e2 hD2 HR HNR HCC HS;unfold strV at hcell2;unfold l7 strV at HRD;go_wp2_with fail
   refine HRD.out.mono ?_;rintro e w3 ⟨bv,v3,rfl,hB3,_,hD3,hC3,-⟩;have hR3:=HR2.out.keep (HK.out _ _ hC3);have hN3:=HN2.out.keep (HK.out _ _ hC3);have hCC:=HC2.out.trans hC3;have hB3':J8 w3 w.heap.size bv fb:=I6 hB3 HC2.out.size;obtain⟨nb3,nc3,hnv3,hcell3⟩:=hN3.cell HM.out;injection hnv3 with e1 e2 e3;injection e1 with e1;injection e1 with e1;subst e1;subst e3;have hrow:=hR3.1;obtain⟨ba,bc,hbv⟩:=ownsRow_form hB3;subst hbv;have HR3:=Lib.hid hR3;have HN3:=Lib.hid hN3;have HC3:=Lib.hid hCC;have HB3:=Lib.hid hB3';have HD3:=Lib.hid hD3;clear hR3 hN3 hCC hC3 hB3 hB3' hD3 hcell2 e2 HR2 HN2 HC2 HRD;unfold strV at hcell3;have hE4:Ext w3 (w3.alloc (.cells #[strV nm,Value.slice ba fb.length bc] 77)):=(Ext.refl w3).new _;go_wp2_with (at_builtin;go_must (refine p8 rfl _ _ 40 rfl w.heap.size 77 i0 (.agg #[.string ⟨#[]⟩,.slice none 0 0]) 2 40 Tryz.underlying40 hi hz0 hz1 hz2 rfl (by omega) (.slice ua rows.length uc) rows.length _ rfl (hrow.alloc (.cells #[strV nm,Value.slice ba fb.length bc] 77)) (.slice (some ⟨w3.heap.size,0,none⟩) 1 1) 1 [strV nm,Value.slice ba fb.length bc] rfl ⟨_,_,rfl,by omega,⟨by omega,fun h=>by cases h⟩,fun _=>⟨_,rfl,World.news_of_block (cs:=#[strV nm,Value.slice ba fb.length bc]) (t:=77) (fr:=(0,0)) (heap_alloc_new w3 _)⟩⟩ rfl (by simp[Value.oneCell',strV]) (by unfold maxLen;omega) (by omega) (by have:=HC3.out.size;simp;omega) ?_);intro b6 c6 w6 hown6 hgrow6 hat6;have HO6:=Lib.hid hown6;have HG6:=Lib.hid hgrow6;clear hown6 hgrow6 hat6)
   go_roundw
   case rel=>
    have hkb:∀b,w.heap.size<=b->b<w3.heap.size->(Value.slice ua rows.length uc).ownBlock≠some b->w6.heap[b]?=w3.heap[b]?:=fun b hb hb3 hne=>(HG6.out.block b (by simp;omega) (fun e=>hne e.symm)).trans (heap_alloc_old w3 _ hb3);have htk:d.files.take (k+1)=d.files.take k++[(nm,fb)]:=by
     have:d.files[k]?=some (nm,fb):=by
      unfold D.files;rw[List.getElem?_map,HM.out];simp[HFB.out]
     rw[List.take_add_one,this];rfl
    have hlen:=HR3.out.2.1;refine⟨k+1,rows++[(nm,Value.slice ba fb.length bc)],by omega,by go_num,⟨?_,?_,?_⟩,?_,?_,?_⟩
    ·have:=HO6.out;rw[List.length_append,List.flatMap_append];simpa [O4] using this
    ·rw[htk,List.length_append,List.length_append,hlen];rfl
    ·intro i p q hp hq;rw[htk] at hq;by_cases hi2:i<rows.length
     ·rw[List.getElem?_append_left hi2] at hp;rw[List.getElem?_append_left (by omega)] at hq;obtain⟨h1,h2⟩:=HR3.out.2.2 i p q hp hq;refine⟨h1,Dep.row h2 w6 fun b hb=>hkb b (World.ownsRow.lt h2 b hb).1 (World.ownsRow.lt h2 b hb).2 (a1O h2 HR3.out.1 (by decide) hb)⟩
     ·rw[List.getElem?_append_right (by omega)] at hp;rw[List.getElem?_append_right (by omega),<-hlen] at hq;have e0:i - rows.length=0:=by
       rcases Nat.eq_zero_or_pos (i - rows.length) with e|e
       ·exact e
       ·rw[List.getElem?_eq_none (by simp;omega)] at hp;cases hp
      rw[e0] at hp hq;simp at hp hq;subst hp;subst hq;refine⟨rfl,Dep.row HB3.out w6 fun b hb=>hkb b (World.ownsRow.lt HB3.out b hb).1 (World.ownsRow.lt HB3.out b hb).2 (a1O HB3.out HR3.out.1 (by decide) hb)⟩
    ·exact Dep.row HN3.out w6 fun b hb=>hkb b (World.ownsRow.lt HN3.out b hb).1 (World.ownsRow.lt HN3.out b hb).2 (a1O HN3.out HR3.out.1 (by decide) hb)
    ·exact HD3.out.frame (fun b hb=>(HG6.out.block b (by have:=HLOW.out b hb;have:=HC3.out.size;simp;omega) (fun e=>by have:=(HR3.out.1.lt b e.symm).1;have:=HLOW.out b hb;omega)).trans (heap_alloc_old w3 _ (by have:=HLOW.out b hb;have:=HC3.out.size;omega))) (by have:=HG6.out.size;simp at this;omega)
    ·exact(HC3.out.trans (Chg.ext hE4)).grown HG6.out fun b hb=>(HR3.out.1.lt b hb).1
   case measure=>simp[intOf];omega
  ·obtain rfl:k=d.list.length:=by omega
   subst hu;have hfin:c3j F a d w (.returned (.slice ua rows.length uc)) wr:=by
    refine⟨.slice ua rows.length uc,rows,rfl,?_,hD,hC⟩;have:d.files.take d.list.length=d.files:=by rw[List.take_of_length_le];unfold D.files;simp
    rw[<-this];exact hR
   have HFIN:=Lib.hid hfin;subst hnv;clear hfin hR hD hC hNr;go_wp2;go_ret;exact HFIN.out
end
end Go.Proofs.YtgpbhjjajpbeeaaGreatDoor
