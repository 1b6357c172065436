/- A part of what the last file proves. -/
import Derived.Test.YtgpbhjjajpbeeaaGreatDoorL10
import Derived.Shelf.Strings.Builder1
import Derived.Shelf.Strings.Builder2
import Derived.Shelf.Strings.Trim
import Derived.Shelf.Small.Utf8
import Derived.Shelf.Small.Bits
import Derived.Shelf.Small.Strs
import Derived.Shelf.Small.Wraps
import Derived.Shelf.Strings.BuilderF
import Derived.Shelf.Strings.BuilderK
import Derived.Shelf.Strings.Builder2Cap
import Derived.Shelf.Strconv.Itoa0
import Derived.Shelf.Strconv.Itoa1
import Derived.Shelf.LaysM
import Derived.Shelf.Strconv.Itoa2
import Derived.Shelf.Strconv.Itoa3
import Derived.Shelf.Strings.Search1
import Derived.Shelf.Sort.Plain
import Derived.Shelf.Strings.Prefix
import Derived.Shelf.Unicode.Decode
import Derived.Shelf.Strings.Runes
import Derived.Shelf.Strings.AsciiSet
import Derived.Shelf.Bits.Mul64
import Derived.Shelf.Strings.Repeat
import Derived.Shelf.Unicode.DecodeSlow
import Derived.Shelf.Unicode.DecodeAny
import Derived.Shelf.Unicode.DecodeLast
import Derived.Shelf.Strings.BuilderCap
import Derived.Shelf.Slices.Turned
import Derived.Shelf.Slices.In.SortNone
import Derived.Sort.OwnSorted
import Derived.BigRegion
set_option linter.all false
set_option maxRecDepth 100000
set_option maxHeartbeats 2000000
namespace Go.Proofs.YtgpbhjjajpbeeaaGreatDoor
section
open Go.RowKit
theorem Ext.trans'{a b c:World}{B:Nat}(h:Ext a b)(k:Below B b c)(hB:a.heap.size<=B:=by first|exact Nat.le_refl _|omega|(have:=Below.size (by assumption);simp at *;omega)):Ext a c:=Below.trans h (k.mono hB)
def Laid(w:World):Prop:=w.cell? ⟨0,0,none⟩=some (.iface 275 (.agg #[.pointer (some ⟨7,34,none⟩)]))
theorem Laid.ext{w w':World}(h:Laid w)(he:Ext w w'):Laid w':=he.cell h
def c3N(t:Addr)(v:Value)(w:World)(e:Ending)(w':World):Prop:=e=.returned (.bool true)/\w'.cell? t=some v/\Below t.block w w'
theorem c1e{t:Addr}{v old:Value}{w w1:World}(ht:w.cell? t=some old)(h:Ext w w1):(w1.setCell t v).cell? t=some v/\Below t.block w (w1.setCell t v):=
 ⟨World.cell?_setCell_same w1 t v (h.cell ht),(h.mono (Nat.le_of_lt (World.block_lt_of_cell? w t ht))).setCell (Nat.le_refl _) _⟩
theorem c1f(n:Int)(t:Addr)(old:Value)(w:World)(h:Laid w)(ht:w.cell? t=some old)(hf:w.frozen? t=false):
 Calls Tryz.prog 65 #[.iface 37 (.int .i64 n),.iface 163 (.pointer (some t))] w (c3N t (.int .i64 n) w):=by
 refine(c1Y n t old w h ht hf).mono ?_;rintro e w' ⟨rfl,rfl⟩;exact⟨rfl,c1e ht ((((Ext.refl w).new _).new _).new _ |>.new _)⟩
theorem c1g(a:Addr)(t:Addr)(old:Value)(w:World)(h:Laid w)(ht:w.cell? t=some old)(hf:w.frozen? t=false):
 Calls Tryz.prog 65 #[.iface 132 (.pointer (some a)),.iface 162 (.pointer (some t))] w (c3N t (.pointer (some a)) w):=by
 refine(c1X a t old w h ht hf).mono ?_;rintro e w' ⟨rfl,rfl⟩;exact⟨rfl,c1e ht ((((Ext.refl w).new _).new _).new _ |>.new _)⟩
theorem c1h(w:World):
 Calls Tryz.prog 15 #[.nilIface] w fun e w'=>e=.returned (.tuple #[.int .i64 0,.string ⟨#[]⟩])/\Ext w w':=by
 go_enter Tryz.func15,Tryz.ntmps15
 go_wp2;go_ret2
 exact⟨rfl,((Ext.refl w).new _).new _⟩
theorem c1i(n:Int)(w:World)(h:Laid w):
 Calls Tryz.prog 15 #[.iface 37 (.int .i64 n)] w fun e w'=>e=.returned (.tuple #[.int .i64 n,.string ⟨#[]⟩])/\Ext w w':=by
 have H:=Lib.hid h;clear h;go_enter Tryz.func15,Tryz.ntmps15
 go_wp2_with fail
 refine(c1Z n _ _ (Laid.ext H.out (((Ext.refl w).new _).new _))).mono ?_;rintro e w1 ⟨rfl,hb1⟩;have hE1:Ext w w1:=(((Ext.refl w).new (.cells #[.int .i64 0] 37)).new (.cells #[.pointer none] 132)).trans hb1;have hc0:w1.cell? ⟨w.heap.size,0,none⟩=some (.int .i64 0):=(Below.cell hb1 (by simp;omega)).trans (by simp);have hf0:w1.frozen? ⟨w.heap.size,0,none⟩=false:=(Below.frozen hb1 (by simp;omega)).trans (by simp);go_wp2_with fail
 refine(c1f n _ (.int .i64 0) _ (Laid.ext H.out hE1) hc0 hf0).mono ?_;rintro e w2 ⟨rfl,hc2,hb2⟩;go_wp2_with fail
 go_ret2
 exact⟨rfl,hE1.trans' hb2⟩
theorem b8i(a:Addr)(name:ByteArray)(n:Int)(w:World)(h:Laid w)(h0:w.cell? a=some (.string name))(h1:w.cell? ⟨a.block,a.off+1,none⟩=some (.int .i64 n)):
 Calls Tryz.prog 15 #[.iface 132 (.pointer (some a))] w fun e w'=>e=.returned (.tuple #[.int .i64 n,.string name])/\Ext w w':=by
 have H:=Lib.hid h;clear h;go_enter Tryz.func15,Tryz.ntmps15
 go_wp2_with fail
 refine(c1g a ⟨w.heap.size+1,0,none⟩ (.pointer none) _ (Laid.ext H.out (((Ext.refl w).new _).new _)) (by simp) (by simp)).mono ?_;rintro e w1 ⟨rfl,hc1,hb1⟩;have hb1':Below (w.heap.size+1) ((w.alloc (.cells #[.int .i64 0] 37)).alloc (.cells #[.pointer none] 132)) w1:=hb1;have hE1:Ext w w1:=Below.trans (((Ext.refl w).new (.cells #[.int .i64 0] 37)).new (.cells #[.pointer none] 132)) (hb1'.mono (by omega));have h01:=hE1.cell h0;have h11:=hE1.cell h1;clear h0 h1;go_wp2;go_quiet (fail)
 go_wp2;go_ret2
 exact⟨rfl,hE1.trans (Ext.drewN _ _)⟩
end
section
open Go.RowKit Go.Lib Go.Maps Dk Pl
theorem a5C(er:Er)(v:Value)(w:World)(h:ErrAt w v er)(hl:Laid w):
 Calls Tryz.prog 15 #[v] w fun e w'=>e=.returned (.tuple #[.int .i64 er.code,strV er.name])/\Ext w w':=by
 cases er with
 | ok=>subst h;exact c1h w
 | num n=>subst h;exact c1i n w hl
 | file n nm=>
  obtain⟨b,rfl,hb⟩:=h;exact b8i ⟨b,0,none⟩ ⟨nm.toArray⟩ n w hl ((hb.cell 0).trans rfl) ((hb.cell 1).trans rfl)
theorem b95(n:Int)(w:World):Calls Tryz.prog 47 #[.int .i64 n] w fun e w'=>∃k:Nat,e=.returned (.int .i64 k)/\1<=k/\k<=999999/\w'=w:=by
 go_enter Tryz.func47,Tryz.ntmps47
 go_wp2;obtain⟨m,hm⟩:∃m,IntKind.u64.wrap (wrap64 (n - 1))=m:=⟨_,rfl⟩;have hm0:0<=m:=by rw[<-hm];exact Int.emod_nonneg _ (by decide)
 have hmod:m.tmod 999999=m%999999:=Int.tmod_eq_emod_of_nonneg hm0;have h1:0<=m%999999:=Int.emod_nonneg _ (by decide);have h2:m%999999<999999:=Int.emod_lt_of_pos _ (by decide);have h3:wrap64 (m%999999)=m%999999:=by unfold wrap64;omega
 have h4:wrap64 (1+m%999999)=((1+(m%999999).toNat:Nat):Int):=by unfold wrap64;omega
 rw[hm,hmod,h3,h4];go_ret;exact⟨_,rfl,by omega,by omega,rfl⟩
def b1G(F:Nat->Prop)(a:Nat)(k:Nat)(w:World)(e:Ending)(w':World):Prop:=
 e=.returned (.tuple #[])/\∃F' d,y9 w' F' a d/\d.Built k/\Chg F F' w w'/\∀b,F b->F' b
theorem a5D(F:Nat->Prop)(a:Nat)(d:D)(k:Nat)(name:Nm)(u:Value)(l:List UInt8)(w:World)(h:y9 w F a d)(hb:d.Built k)(hk:k<=32000)(hn:name.length<=1000000)
 (hu:Held w F (fun W=>Bytes W u l))(hl:l.length<=35184372088832)(hL:Held w F Laid):
 Calls Tryz.prog 50 #[y8 a,strV name,u] w (b1G F a (k+1) w):=by
 have hcr:=b4a F a d name w h (by unfold maxLen;omega) (by have:=hb.mlen;omega);obtain⟨ua,uc,rfl,huc,huc',-⟩:=hu.get.open;have HCR:=Lib.hid hcr;have HB:=Lib.hid hb;have HU:=Lib.hid hu;have HL:=Lib.hid hL;clear hcr hb hu hL h;unfold y8 strV at *;go_enter Tryz.func50,Tryz.ntmps50
 go_wp2_with fail
 refine HCR.out.mono ?_;rintro e w1 ⟨x,hx,F1,v1,rfl,hv1,hD1,hC1,hF1⟩;have hb1:=HB.out.create hx hn;have hL1:=HL.out.step hC1;have htell:=a5C _ v1 w1 hv1.get hL1.get;obtain⟨d1,hd1⟩:∃d1,(d.create name x).2=d1:=⟨_,rfl⟩;obtain⟨er,her⟩:∃er,(d.create name x).1=er:=⟨_,rfl⟩;rw[hd1] at hb1 hD1;rw[her] at htell;have HT:=Lib.hid htell;have HB1:=Lib.hid hb1;have HC1:=Lib.hid hC1;have HF1:=Lib.hid hF1;have HD1:=Lib.hid hD1;have HU1:=Lib.hid (HU.out.step hC1);clear htell hb1 hC1 hF1 hv1 hL1 hd1 her hx hD1 HCR HL;unfold strV at HT;go_wp2_with fail
 refine HT.out.mono ?_;rintro e w2 ⟨rfl,hE2⟩;have HE2:=Lib.hid hE2;clear hE2;by_cases hc:er.code=0
 ·have hap:=b4c F1 a d1 name (.slice ua l.length uc) l w2 (HD1.out.ext HE2.out) (HU1.out.ext HE2.out) (by unfold maxLen;omega) hl (fun x hx=>by have:=HB1.out.bound x hx;omega) (by have:=HB1.out.len;omega);have HAP:=Lib.hid hap;clear hap;unfold y8 strV at HAP;go_wp2_with fail
  refine HAP.out.mono ?_;rintro e w3 ⟨F3,v3,rfl,hv3,hD3,hC3,hF3⟩;have hsy:=b9z F3 a _ name w3 hD3 (by unfold maxLen;omega);have HSY:=Lib.hid hsy;have HC3:=Lib.hid hC3;have HF3:=Lib.hid hF3;clear hsy hC3 hF3 hv3 hD3 HAP;unfold y8 strV at HSY;go_wp2_with fail
  refine HSY.out.mono ?_;rintro e w4 ⟨F4,v4,rfl,hv4,hD4,hC4,hF4⟩;have hfin:b1G F a (k+1) w (.returned (.tuple #[])) w4:=⟨rfl,F4,_,hD4,HB1.out.appendSync name l,((HC1.out.trans (Chg.ext HE2.out)).trans HC3.out).trans hC4,fun b hb=>hF4 b (HF3.out b (HF1.out b hb))⟩;have HF:=Lib.hid hfin;clear hfin hD4 hC4 hF4 hv4;go_wp2;go_end0
  exact HF.out
 ·have hfin:b1G F a (k+1) w (.returned (.tuple #[])) w2:=⟨rfl,F1,d1,HD1.out.ext HE2.out,HB1.out,HC1.out.trans (Chg.ext HE2.out),HF1.out⟩;have HF:=Lib.hid hfin;clear hfin;go_wp2;go_end0
  exact HF.out
end
end Go.Proofs.YtgpbhjjajpbeeaaGreatDoor
namespace Go.Proofs
section
open Go.Shelf
def Tryz.laysM246_ren:Go.Shelf.Ren:=⟨fun|246=>174|283=>202|284=>203|285=>204|286=>205|129=>190|317=>218|318=>219|319=>220|320=>221|337=>226|338=>227|n=>n,fun|2=>2|3=>3|9=>9|4=>4|171=>337|0=>0|53=>24|37=>25|5=>5|173=>339|212=>353|51=>147|20=>20|213=>354|46=>56|232=>367|233=>368|n=>n,fun|17=>1|18=>5|19=>6|n=>n⟩
def Tryz.laysM243_ren:Go.Shelf.Ren:=⟨fun|243=>150|246=>174|283=>202|284=>203|285=>204|286=>205|129=>190|317=>218|318=>219|319=>220|320=>221|337=>226|338=>227|n=>n,fun|3=>3|9=>9|2=>2|4=>4|171=>337|0=>0|53=>24|37=>25|5=>5|173=>339|212=>353|51=>147|20=>20|213=>354|46=>56|232=>367|233=>368|n=>n,fun|17=>1|18=>5|19=>6|n=>n⟩
def Tryz.laysM171_ren:Go.Shelf.Ren:=⟨fun|171=>95|243=>150|246=>174|283=>202|284=>203|285=>204|286=>205|129=>190|317=>218|318=>219|319=>220|320=>221|337=>226|338=>227|n=>n,fun|3=>3|9=>9|2=>2|4=>4|171=>337|0=>0|53=>24|37=>25|5=>5|173=>339|212=>353|51=>147|20=>20|213=>354|46=>56|232=>367|233=>368|n=>n,fun|17=>1|18=>5|19=>6|n=>n⟩
theorem Tryz.laysM171:Go.Proofs.LaysM.n171 Tryz.prog Tryz.laysM171_ren:={
 mixed:=by kernel_rfl
 f129:=Tryz.func190.trans (congrArg some (by kernel_rfl))
 f171:=Tryz.func95.trans (congrArg some (by kernel_rfl))
 f243:=Tryz.func150.trans (congrArg some (by kernel_rfl))
 f246:=Tryz.func174.trans (congrArg some (by kernel_rfl))
 f283:=Tryz.func202.trans (congrArg some (by kernel_rfl))
 f284:=Tryz.func203.trans (congrArg some (by kernel_rfl))
 f285:=Tryz.func204.trans (congrArg some (by kernel_rfl))
 f286:=Tryz.func205.trans (congrArg some (by kernel_rfl))
 f317:=Tryz.func218.trans (congrArg some (by kernel_rfl))
 f318:=Tryz.func219.trans (congrArg some (by kernel_rfl))
 f319:=Tryz.func220.trans (congrArg some (by kernel_rfl))
 f320:=Tryz.func221.trans (congrArg some (by kernel_rfl))
 f337:=Tryz.func226.trans (congrArg some (by kernel_rfl))
 f338:=Tryz.func227.trans (congrArg some (by kernel_rfl))
 t0:=Tryz.underlying0
 a0:=Tryz.isAgg0
 z0:=Tryz.sizeOf0
 v0:=Tryz.zeroValue0
 t2:=Tryz.underlying2
 a2:=Tryz.isAgg2
 z2:=Tryz.sizeOf2
 v2:=Tryz.zeroValue2
 t3:=Tryz.underlying3
 a3:=Tryz.isAgg3
 z3:=Tryz.sizeOf3
 v3:=Tryz.zeroValue3
 t4:=Tryz.underlying4
 a4:=Tryz.isAgg4
 z4:=Tryz.sizeOf4
 v4:=Tryz.zeroValue4
 t5:=Tryz.underlying5
 a5:=Tryz.isAgg5
 z5:=Tryz.sizeOf5
 v5:=Tryz.zeroValue5
 t9:=Tryz.underlying9
 a9:=Tryz.isAgg9
 z9:=Tryz.sizeOf9
 v9:=Tryz.zeroValue9
 t20:=Tryz.underlying20
 a20:=Tryz.isAgg20
 z20:=Tryz.sizeOf20
 v20:=Tryz.zeroValue20
 t37:=Tryz.underlying25
 a37:=Tryz.isAgg25
 z37:=Tryz.sizeOf25
 v37:=Tryz.zeroValue25
 t46:=Tryz.underlying56
 a46:=Tryz.isAgg56
 z46:=Tryz.sizeOf56
 v46:=Tryz.zeroValue56
 t51:=Tryz.underlying147
 a51:=Tryz.isAgg147
 z51:=Tryz.sizeOf147
 v51:=Tryz.zeroValue147
 t53:=Tryz.underlying24
 a53:=Tryz.isAgg24
 z53:=Tryz.sizeOf24
 v53:=Tryz.zeroValue24
 t171:=Tryz.underlying337
 a171:=Tryz.isAgg337
 z171:=Tryz.sizeOf337
 v171:=Tryz.zeroValue337
 t173:=Tryz.underlying339
 a173:=Tryz.isAgg339
 z173:=Tryz.sizeOf339
 v173:=Tryz.zeroValue339
 t212:=Tryz.underlying353
 a212:=Tryz.isAgg353
 z212:=Tryz.sizeOf353
 v212:=Tryz.zeroValue353
 t213:=Tryz.underlying354
 a213:=Tryz.isAgg354
 z213:=Tryz.sizeOf354
 t232:=Tryz.underlying367
 a232:=Tryz.isAgg367
 z232:=Tryz.sizeOf367
 v232:=Tryz.zeroValue367
 t233:=Tryz.underlying368
 a233:=Tryz.isAgg368
 z233:=Tryz.sizeOf368
 v233:=Tryz.zeroValue368
 g17:=by kernel_rfl
 g18:=by kernel_rfl
 g19:=by kernel_rfl
 i0:=by kernel_rfl
 i2:=by kernel_rfl
 i3:=by kernel_rfl
 i4:=by kernel_rfl
 i5:=by kernel_rfl
 i9:=by kernel_rfl
 i20:=by kernel_rfl
 i37:=by kernel_rfl
 i46:=by kernel_rfl
 i51:=by kernel_rfl
 i53:=by kernel_rfl
 i171:=by kernel_rfl
 i173:=by kernel_rfl
 i212:=by kernel_rfl
 i232:=by kernel_rfl
 i233:=by kernel_rfl
 m17:=by kernel_rfl
 m18:=by kernel_rfl
 m19:=by kernel_rfl}
open Go.RowKit Go.Sort Go.Lib in
theorem Tryz.strconv_Itoa(n:Int)(h0:-9223372036854775808<=n)(h1:n<=9223372036854775807)(w:World)(htab:Lib.TabIs Tryz.prog w "internal/strconv.uint64pow10" .u64 Lib.pow10Tab):
 Calls Tryz.prog 95 #[.int .i64 n] w fun e w'=>e=.returned (.string ⟨(Lib.itoa n).toArray⟩)/\∃k os,w'=grow (w.drewN k) os:=Any.strconv_Itoa Tryz.laysM171 n h0 h1 w htab
def Tryz.lays190_ren:Go.Shelf.Ren:=⟨fun|190=>123|125=>165|258=>164|128=>189|129=>190|302=>180|303=>181|304=>182|305=>183|306=>184|307=>185|308=>186|309=>187|310=>188|333=>208|329=>209|330=>210|334=>211|335=>212|336=>213|344=>222|n=>n,fun|31=>73|9=>9|3=>3|46=>56|0=>0|51=>147|53=>24|4=>4|183=>321|182=>320|131=>325|5=>5|218=>343|222=>346|228=>356|229=>357|n=>n,fun|n=>n⟩
theorem Tryz.lays190:Go.Proofs.Lays.n190 Tryz.prog Tryz.lays190_ren:={
 mixed:=by kernel_rfl
 f125:=Tryz.func165.trans (congrArg some (by kernel_rfl))
 f128:=Tryz.func189.trans (congrArg some (by kernel_rfl))
 f129:=Tryz.func190.trans (congrArg some (by kernel_rfl))
 f190:=Tryz.func123.trans (congrArg some (by kernel_rfl))
 f258:=Tryz.func164.trans (congrArg some (by kernel_rfl))
 f302:=Tryz.func180.trans (congrArg some (by kernel_rfl))
 f303:=Tryz.func181.trans (congrArg some (by kernel_rfl))
 f304:=Tryz.func182.trans (congrArg some (by kernel_rfl))
 f305:=Tryz.func183.trans (congrArg some (by kernel_rfl))
 f306:=Tryz.func184.trans (congrArg some (by kernel_rfl))
 f307:=Tryz.func185.trans (congrArg some (by kernel_rfl))
 f308:=Tryz.func186.trans (congrArg some (by kernel_rfl))
 f309:=Tryz.func187.trans (congrArg some (by kernel_rfl))
 f310:=Tryz.func188.trans (congrArg some (by kernel_rfl))
 f329:=Tryz.func209.trans (congrArg some (by kernel_rfl))
 f330:=Tryz.func210.trans (congrArg some (by kernel_rfl))
 f333:=Tryz.func208.trans (congrArg some (by kernel_rfl))
 f334:=Tryz.func211.trans (congrArg some (by kernel_rfl))
 f335:=Tryz.func212.trans (congrArg some (by kernel_rfl))
 f336:=Tryz.func213.trans (congrArg some (by kernel_rfl))
 f344:=Tryz.func222.trans (congrArg some (by kernel_rfl))
 t0:=Tryz.underlying0
 a0:=Tryz.isAgg0
 z0:=Tryz.sizeOf0
 v0:=Tryz.zeroValue0
 t3:=Tryz.underlying3
 a3:=Tryz.isAgg3
 z3:=Tryz.sizeOf3
 v3:=Tryz.zeroValue3
 t4:=Tryz.underlying4
 a4:=Tryz.isAgg4
 z4:=Tryz.sizeOf4
 v4:=Tryz.zeroValue4
 t5:=Tryz.underlying5
 a5:=Tryz.isAgg5
 z5:=Tryz.sizeOf5
 v5:=Tryz.zeroValue5
 t9:=Tryz.underlying9
 a9:=Tryz.isAgg9
 z9:=Tryz.sizeOf9
 v9:=Tryz.zeroValue9
 t31:=Tryz.underlying73
 a31:=Tryz.isAgg73
 z31:=Tryz.sizeOf73
 v31:=Tryz.zeroValue73
 t46:=Tryz.underlying56
 a46:=Tryz.isAgg56
 z46:=Tryz.sizeOf56
 v46:=Tryz.zeroValue56
 t51:=Tryz.underlying147
 a51:=Tryz.isAgg147
 z51:=Tryz.sizeOf147
 v51:=Tryz.zeroValue147
 t53:=Tryz.underlying24
 a53:=Tryz.isAgg24
 z53:=Tryz.sizeOf24
 v53:=Tryz.zeroValue24
 t131:=Tryz.underlying325
 a131:=Tryz.isAgg325
 z131:=Tryz.sizeOf325
 v131:=Tryz.zeroValue325
 t182:=Tryz.underlying320
 a182:=Tryz.isAgg320
 z182:=Tryz.sizeOf320
 v182:=Tryz.zeroValue320
 t183:=Tryz.underlying321
 a183:=Tryz.isAgg321
 z183:=Tryz.sizeOf321
 v183:=Tryz.zeroValue321
 t218:=Tryz.underlying343
 a218:=Tryz.isAgg343
 z218:=Tryz.sizeOf343
 v218:=Tryz.zeroValue343
 t222:=Tryz.underlying346
 a222:=Tryz.isAgg346
 z222:=Tryz.sizeOf346
 v222:=Tryz.zeroValue346
 t228:=Tryz.underlying356
 a228:=Tryz.isAgg356
 z228:=Tryz.sizeOf356
 v228:=Tryz.zeroValue356
 t229:=Tryz.underlying357
 a229:=Tryz.isAgg357
 z229:=Tryz.sizeOf357
 v229:=Tryz.zeroValue357}
open Go.Sort Go.RowKit in
theorem Tryz.slices_Sort_string(blk off cap:Nat)(ss:List (List UInt8))(w:World)(hH:Holds encStr w blk off ss.toArray)(hblk:blk<w.heap.size)(hsz:ss.length<4611686018427387904):
 Calls Tryz.prog 123 #[.slice (some ⟨blk,off,none⟩) ss.length cap] w fun e w'=>
  e=.returned (.tuple #[])/\∃n os,w'=grow (putRow encStr (Sort.ahead w n) blk off (ss.mergeSort fun x y=>decide (x<=y)).toArray) os:=Any.slices_Sort_string Tryz.lays190 blk off cap ss w hH hblk hsz
def Tryz.lays105_ren:Go.Shelf.Ren:=⟨fun|105=>96|212=>151|99=>152|165=>153|166=>154|170=>155|169=>156|263=>175|264=>176|206=>177|240=>178|241=>179|276=>206|277=>207|n=>n,fun|9=>9|3=>3|4=>4|20=>20|0=>0|46=>56|109=>267|5=>5|72=>271|76=>165|51=>147|146=>314|53=>24|148=>316|70=>269|37=>25|75=>34|127=>318|164=>209|80=>273|n=>n,fun|n=>n⟩
theorem Tryz.lays105:Go.Proofs.Lays.n105 Tryz.prog Tryz.lays105_ren:={
 mixed:=by kernel_rfl
 f99:=Tryz.func152.trans (congrArg some (by kernel_rfl))
 f105:=Tryz.func96.trans (congrArg some (by kernel_rfl))
 f165:=Tryz.func153.trans (congrArg some (by kernel_rfl))
 f166:=Tryz.func154.trans (congrArg some (by kernel_rfl))
 f169:=Tryz.func156.trans (congrArg some (by kernel_rfl))
 f170:=Tryz.func155.trans (congrArg some (by kernel_rfl))
 f206:=Tryz.func177.trans (congrArg some (by kernel_rfl))
 f212:=Tryz.func151.trans (congrArg some (by kernel_rfl))
 f240:=Tryz.func178.trans (congrArg some (by kernel_rfl))
 f241:=Tryz.func179.trans (congrArg some (by kernel_rfl))
 f263:=Tryz.func175.trans (congrArg some (by kernel_rfl))
 f264:=Tryz.func176.trans (congrArg some (by kernel_rfl))
 f276:=Tryz.func206.trans (congrArg some (by kernel_rfl))
 f277:=Tryz.func207.trans (congrArg some (by kernel_rfl))
 t0:=Tryz.underlying0
 a0:=Tryz.isAgg0
 z0:=Tryz.sizeOf0
 v0:=Tryz.zeroValue0
 t3:=Tryz.underlying3
 a3:=Tryz.isAgg3
 z3:=Tryz.sizeOf3
 v3:=Tryz.zeroValue3
 t4:=Tryz.underlying4
 a4:=Tryz.isAgg4
 z4:=Tryz.sizeOf4
 v4:=Tryz.zeroValue4
 t5:=Tryz.underlying5
 a5:=Tryz.isAgg5
 z5:=Tryz.sizeOf5
 v5:=Tryz.zeroValue5
 t9:=Tryz.underlying9
 a9:=Tryz.isAgg9
 z9:=Tryz.sizeOf9
 v9:=Tryz.zeroValue9
 t20:=Tryz.underlying20
 a20:=Tryz.isAgg20
 z20:=Tryz.sizeOf20
 v20:=Tryz.zeroValue20
 t37:=Tryz.underlying25
 a37:=Tryz.isAgg25
 z37:=Tryz.sizeOf25
 v37:=Tryz.zeroValue25
 t46:=Tryz.underlying56
 a46:=Tryz.isAgg56
 z46:=Tryz.sizeOf56
 v46:=Tryz.zeroValue56
 t51:=Tryz.underlying147
 a51:=Tryz.isAgg147
 z51:=Tryz.sizeOf147
 v51:=Tryz.zeroValue147
 t53:=Tryz.underlying24
 a53:=Tryz.isAgg24
 z53:=Tryz.sizeOf24
 v53:=Tryz.zeroValue24
 t70:=Tryz.underlying269
 a70:=Tryz.isAgg269
 z70:=Tryz.sizeOf269
 v70:=Tryz.zeroValue269
 t72:=Tryz.underlying271
 a72:=Tryz.isAgg271
 z72:=Tryz.sizeOf271
 v72:=Tryz.zeroValue271
 t75:=Tryz.underlying34
 a75:=Tryz.isAgg34
 z75:=Tryz.sizeOf34
 v75:=Tryz.zeroValue34
 t76:=Tryz.underlying165
 a76:=Tryz.isAgg165
 z76:=Tryz.sizeOf165
 v76:=Tryz.zeroValue165
 t109:=Tryz.underlying267
 a109:=Tryz.isAgg267
 z109:=Tryz.sizeOf267
 v109:=Tryz.zeroValue267
 t127:=Tryz.underlying318
 a127:=Tryz.isAgg318
 z127:=Tryz.sizeOf318
 v127:=Tryz.zeroValue318
 t146:=Tryz.underlying314
 a146:=Tryz.isAgg314
 z146:=Tryz.sizeOf314
 v146:=Tryz.zeroValue314
 t148:=Tryz.underlying316
 a148:=Tryz.isAgg316
 z148:=Tryz.sizeOf316
 v148:=Tryz.zeroValue316
 t164:=Tryz.underlying209
 a164:=Tryz.isAgg209
 z164:=Tryz.sizeOf209
 v164:=Tryz.zeroValue209}
theorem Tryz.Builder_Extra_105:Builder.Extra Tryz.prog Tryz.lays105_ren:={
 sizeBuilder:=by kernel_rfl
 liesBuilder:=by kernel_rfl
 t5:=Tryz.underlying5
 a5:=Tryz.isAgg5
 z5:=Tryz.sizeOf5
 v5:=Tryz.zeroValue5
 infoByte:=by kernel_rfl
 cellsByte:=by kernel_rfl
 sizeByte:=by kernel_rfl
 neB5:=by decide}
open Go.RowKit Go.Lib in
theorem Tryz.strings_Repeat(s:ByteArray)(c:Nat)(w:World)(hc:c<=9223372036854775807)(hlen:s.size*c<=140737488355328):
 Calls Tryz.prog 96 #[.string s,.int .i64 c] w fun e w'=>e=.returned (.string ⟨(Lib.repeatL s.data.toList c).toArray⟩)/\Below w.heap.size w w':=Any.strings_Repeat Tryz.lays105 Tryz.Builder_Extra_105 s c w hc hlen
open Go.RowKit Go.Sort in
theorem Tryz.slices_Sort_string_none(p:Option Addr)(cap:Nat)(w:World):
 Calls Tryz.prog 123 #[.slice p 0 cap] w fun e w'=>e=.returned (.tuple #[])/\w'=w:=Any.slices_Sort_string_none Tryz.lays190 p cap w
end
end Go.Proofs
namespace Go.Proofs.YtgpbhjjajpbeeaaGreatDoor
section
open Go.RowKit Go.Lib Go.Maps Dk
def b2K(w:World)(B:Nat)(v:Value)(l:List Nm):Prop:=w.ownsRow B 9 1 v l.length (l.map strV)
def c4e(d:D)(w:World)(e:Ending)(w':World):Prop:=∃v,e=.returned v/\b2K w' w.heap.size v d.list/\Ext w w'
theorem b9v:(Tryz.prog.info? 9).map (fun i=>(i.zero,i.size,i.bytes))=some (some (.string ⟨#[]⟩),1,16):=by kernel_rfl
theorem a7h{α β:Type}{P:Program}{k:TypeId}{kf:α->Value}{vf:β->Value}{w:World}{r i:Nat}{l vis:List (α×β)}{e:TypeId}{size B:Nat}{v:Value}{n:Nat}{xs:List Value}
 (h:w.ownsRow B e size v n xs)(hr:P8 P k kf vf w i r l vis):v.ownBlock≠some i:=by
 intro hv;obtain⟨es,clock,seen,js,h1,h2,_⟩:=hr;rcases h.2 with⟨rfl,_⟩|⟨g,cap,cur,rfl,hg,hh,_⟩
 ·cases hv
 ·simp[Value.ownBlock] at hv;subst hv;rw[h2] at hh;cases hh
theorem b9w(F:Nat->Prop)(a:Nat)(d:D)(w:World)(h:y9 w F a d)(hnl:d.now.length<=32768):Calls Tryz.prog 66 #[y8 a] w (c4e d w):=by
 obtain⟨m1,m2,mv,gs,dv,hr⟩:=h;obtain⟨i0,hi,hz0,hz1,hz2⟩:=info_parts b9v;have c0:=hr.box.cell 0;obtain⟨w2,hrange,hRA,hExt,hsz2⟩:=hr.now.range Tryz.underlying171;have HR:=Lib.hid hr;have HRA:=Lib.hid hRA;have HEX:=Lib.hid hExt;clear hr hRA hExt;unfold y8;go_enter Tryz.func66,Tryz.ntmps66
 go_wp2;go_loopw [3] (fun i wr=>∃vis,P8 Tryz.prog 9 strV y8 wr w.heap.size m1 d.now vis/\wr.ownsRow w.heap.size 9 1 i vis.length (vis.map fun p=>strV p.1)/\Ext w wr) (fun _ wr=>d.now.length - b2a wr w.heap.size)
 case atStart=>exact⟨[],HRA.out,⟨rfl,Or.inl ⟨rfl,rfl⟩⟩,HEX.out⟩
 case round=>
  obtain⟨vis,hRA,hown,hEx⟩:=hrel;have hvl:=hRA.length;have hseen:=hRA.seen;obtain⟨va,vc,rfl⟩:=ownsRow_form hown;rcases hRA.next 0 with⟨p,w3,hnx,hpm,hRA3,hO3,hent,hvlt⟩|⟨hnx,hperm⟩
  ·have hne:=a7h hown hRA;have hown3:w3.ownsRow w.heap.size 9 1 (.slice va vis.length vc) vis.length (vis.map fun p=>strV p.1):=Dep.row hown w3 fun b hb=>hO3.block b (fun e=>hne (e▸hb));have hne3:=a7h hown3 hRA3;have hEx3:Ext w w3:=hEx.off hO3 (Nat.le_refl _);have hl3:=hRA3.lt;have hm1:(Value.slice va vis.length vc).ownBlock≠some m1:=Q5 hown3 ((HR.out.ext hEx3).now);have hseen3:=hRA3.seen;have HH:=Lib.hid hRA3;have HSN:=Lib.hid hseen;have HSN3:=Lib.hid hseen3;have HE3:=Lib.hid hEx3;have HN3:=Lib.hid hne3;have HL3:=Lib.hid hl3;have HM1:=Lib.hid hm1;clear hRA3 hseen hseen3 hRA hO3 hEx3 hne hne3 hl3 hown hm1 hEx;unfold strV y8 at hnx hent;go_wp2_with (at_builtin;go_must (refine D6 rfl _ _ 73 rfl w.heap.size 9 i0 (.string ⟨#[]⟩) 1 16 Tryz.underlying73 hi hz0 hz1 hz2 rfl (by omega) (.slice va vis.length vc) vis.length _ rfl (hown3.alloc (.cells #[strV p.1] 9)) (.slice (some ⟨w3.heap.size,0,none⟩) 1 1) 1 [strV p.1] rfl ⟨_,_,rfl,by omega,⟨by omega,fun h=>by cases h⟩,fun _=>⟨_,rfl,World.news_of_block (cs:=#[strV p.1]) (t:=9) (fr:=(0,0)) (heap_alloc_new w3 _)⟩⟩ rfl (by simp[Value.oneCell',strV]) (by unfold maxLen;omega) (by omega) (by have:=HE3.out.size;simp;omega) ?_);intro b6 c6 w6 hown6 hgrow6 hat6;have HO6:=Lib.hid hown6;have HG6:=Lib.hid hgrow6;clear hown6 hgrow6 hat6)
   go_roundw
   case rel=>
    have hR6:P8 Tryz.prog 9 strV y8 w6 w.heap.size m1 d.now (vis++[p]):=HH.out.block
     ((HG6.out.block _ (by simp;have:=HL3.out.1;omega) (fun e=>HN3.out e.symm)).trans (heap_alloc_old w3 _ HL3.out.1))
     ((HG6.out.block _ (by simp;have:=HL3.out.2.1;omega) (fun e=>HM1.out e.symm)).trans (heap_alloc_old w3 _ HL3.out.2.1))
    refine⟨vis++[p],hR6,?_,?_⟩
    ·have:=HO6.out;simpa using this
    ·exact Below.grown (HE3.out.new (.cells #[strV p.1] 9)) HG6.out (by have:=HE3.out.size;simp;omega) (fun k hk=>(hown3.lt k hk).1)
   case measure=>
    have hR6:P8 Tryz.prog 9 strV y8 w6 w.heap.size m1 d.now (vis++[p]):=HH.out.block
     ((HG6.out.block _ (by simp;have:=HL3.out.1;omega) (fun e=>HN3.out e.symm)).trans (heap_alloc_old w3 _ HL3.out.1))
     ((HG6.out.block _ (by simp;have:=HL3.out.2.1;omega) (fun e=>HM1.out e.symm)).trans (heap_alloc_old w3 _ HL3.out.2.1))
    rw[HSN.out,hR6.seen];simp;omega
  ·have hvm:(vis.map fun p=>strV p.1)=(vis.map Prod.fst).map strV:=by simp
   have hls:(vis.map Prod.fst).mergeSort leN=d.list:=b6R (hperm.map _);have hlen:d.list.length=vis.length:=by rw[<-hls];simp
   rw[hvm] at hown;have ho:=hown;rcases hown.2 with⟨hnil,h0⟩|⟨g,cap,cur,hgv,hbase,hb,h1,h2,h3,h4⟩
   ·have hs:=Tryz.slices_Sort_string_none va vc wr;have HS:=Lib.hid hs;rw[h0] at ho;have hd:d.list=[]:=List.eq_nil_of_length_eq_zero (by omega);clear hs hrange hRA hperm hown hseen hvm;go_wp2_with fail
    refine HS.out.mono ?_;rintro e w4 ⟨rfl,rfl⟩;go_wp2;go_ret;refine⟨.slice va 0 vc,rfl,?_,hEx⟩;have hv0:vis=[]:=List.eq_nil_of_length_eq_zero h0;subst hv0;rw[hd];exact ho
   ·injection hgv with e1 e2 e3;subst e1;subst e3;have hlm:(vis.map Prod.fst).length=vis.length:=by simp
    have hH:Go.Sort.Holds encStr wr g 0 (vis.map Prod.fst).toArray:=holds_of_block hb (by rw[hlm,<-Nat.mul_one vis.length];exact h4);have hs:=Tryz.slices_Sort_string g 0 vc (vis.map Prod.fst) wr hH (Array.getElem?_eq_some_iff.1 hb).1 (by rw[hlm];omega);rw[hlm] at hs;have HS:=Lib.hid hs;have HBK:=Lib.hid hb;have H3:=Lib.hid h3;clear hs hrange hRA hperm hown hseen hvm hH hb h4 h3;go_wp2_with fail
    refine HS.out.mono ?_;rintro e w4 ⟨rfl,n,os,hw4⟩;have HW4:=Lib.hid hw4;clear hw4;go_wp2;go_ret;refine⟨.slice (some ⟨g,0,none⟩) vis.length vc,rfl,?_,?_⟩
    ·have:=ownsRow_sorted (n:=n) (os:=os) (ss:=vis.map Prod.fst) (ts:=d.list) (by rw[hlen,hlm]) hbase HBK.out (by rw[hlm];exact h1) h2 H3.out;rw[<-hls] at this;rw[HW4.out];unfold b2K;rw[hlen,<-hls];rw[hlm] at this;exact this
    ·rw[HW4.out];exact Below.grown hEx (grownBy_sorted _) hEx.size (fun k hk=>by injection hk with hk;omega)
end
section
open Go.RowKit Go.Lib Pl
theorem V8(v:Value)(l:List UInt8)(w:World)(h:Bytes w v l)(hl:l.length<=8):
 Calls Tryz.prog 75 #[v] w fun e w'=>e=.returned (.int .u64 (num l))/\w=w':=by
 obtain⟨a,cap,rfl,hc,hc',hcell⟩:=h.open;go_enter Tryz.func75,Tryz.ntmps75
 go_wp2;go_loop [3,4] (fun c i=>∃k:Nat,k<=l.length/\i=.int .i64 k/\c=.int .u64 (num (l.take k))) (fun _ i=>l.length - (intOf i).toNat)
 case atStart=>exact⟨0,Nat.zero_le _,rfl,rfl⟩
 case round=>
  obtain⟨k,hk,rfl,rfl⟩:=hrel;by_cases hlt:k<l.length
  ·obtain⟨b,rfl,hb⟩:=hcell k hlt;have hs:Hid (num (l.take (k+1))=num (l.take k)*256+l[k].toNat):=by
    have e:num (l.take (k+1))=num (l.take k)*256+l[k].toNat:=by rw[take_snoc l k hlt,a9j]
    exact e
   have hC:num (l.take k)<256^7:=Nat.lt_of_lt_of_le (b1V _) (Nat.pow_le_pow_right (by omega) (by rw[List.length_take];omega));clear hcell;generalize num (l.take k)=C at *;have hx:=b0Q l[k];generalize l[k]=x at *;have hC':C<72057594037927936:=hC;clear hC;go_wp2;go_round
   case rel=>
    refine⟨k+1,by omega,by go_num,?_⟩;rw[hs.out];go_num
   case measure=>simp[intOf];omega
  ·go_wp2;go_ret;obtain rfl:k=l.length:=by omega
   exact⟨by rw[List.take_length];rfl,rfl⟩
theorem Y0(v:Value)(B:Nat)(l:List UInt8)(n k:Nat)(w:World)(h:OwnB w B v l)(hk:k<=8)(hl:l.length<=1000000)(hB:B<=w.heap.size):
 Calls Tryz.prog 89 #[v,.int .u64 n,.int .i64 k] w (c48 B (l++be n k) w):=by
 obtain⟨i0,hi,hz0,hz1,hz2⟩:=info_parts a4q;have hk0:IntKind.i64.wrap ((k:Int) - 1)=(k:Int) - 1:=IntWalk.i64_in _ (by omega);go_enter Tryz.func89,Tryz.ntmps89
 go_wp2;go_loopw [0,7] (fun u c wr=>∃j:Nat,j<=k/\c=.int .i64 ((j:Int) - 1)/\(∃l',l'++be n j=l++be n k/\OwnB wr B u l')/\Below B w wr) (fun _ c _=>(intOf c+1).toNat)
 case atStart=>exact⟨k,Nat.le_refl _,rfl,⟨l,rfl,h⟩,Below.refl _ _⟩
 case round=>
  obtain⟨j,hj,rfl,⟨l',hl',hown⟩,hb⟩:=hrel;by_cases hj0:0<j
  ·obtain⟨j,rfl⟩:∃i,j=i+1:=⟨j - 1,by omega⟩;rw[show((j+1:Nat):Int) - 1=(j:Int) from by omega];have hw1:IntKind.i64.wrap (8*(j:Int))=8*(j:Int):=IntWalk.i64_in _ (by omega);have hw2:(0:Int)<=8*(j:Int):=by omega
   have hlen:l'.length<=1000008:=by
    have:=congrArg List.length hl';simp only[List.length_append,H7] at this;omega
   have hsz:=hb.size;go_wp2_with (at_builtin;go_must (refine wpList_append_lies _ rfl _ _ _ rfl B 5 i0 _ 1 1 Tryz.underlying25 hi hz0 hz1 hz2 rfl (by omega) _ l'.length (l'.map byteV) rfl (hown.alloc _) ⟨wr.heap.size,0,none⟩ 1 1 [_] rfl rfl (World.news_of_block (cs:=#[_]) (t:=5) (fr:=(0,0)) (heap_alloc_new wr _)) (by simp[Value.oneCell']) (by omega) (by unfold maxLen;omega) (by omega) (by simp;omega) (wr.heap.size+1) (by simp) ?_);intro gg cap w1 hown1 hgrow hat hlt1)
   go_roundw
   case rel=>
    refine⟨j,by omega,rfl,⟨l'++[UInt8.ofNat (n/256^j)],by rw[List.append_assoc];exact hl',?_⟩,?_⟩
    ·rw[c0S] at hown1;unfold OwnB;rw[List.length_append,List.map_append];exact hown1
    ·exact(hb.alloc (by omega) _).grown hgrow (by simp;omega) (fun k hk=>(hown.lt k hk).1)
   case measure=>simp[intOf]
  ·obtain rfl:j=0:=by omega
   go_wp2;go_ret;simp only[be,List.append_nil] at hl';subst hl';exact⟨_,rfl,hown,hb⟩
end
section
open Go.RowKit Go.Lib Pl
def a7Y(seq:Nat)(k v:ByteArray)(d:Bool)(size:Int):Value:=.agg #[.int .u64 seq,.string k,.string v,.bool d,.int .i64 size]
def c09(n:Int)(w:World)(e:Ending)(w':World):Prop:=e=.returned (.tuple #[.slice none 0 0,.int .i64 n])/\Ext w w'
def b5b(l:List UInt8)(w:World)(e:Ending)(w':World):Prop:=∃v,e=.returned (.tuple #[v,.int .i64 0])/\OwnB w' w.heap.size v l/\Ext w w'
theorem a6U(w:World)(x:Value)(t:TypeId):a0m (w.alloc (.cells #[x] t)) (.slice (some ⟨w.heap.size,0,none⟩) 1 1) 1 [x]:=
 ⟨_,_,rfl,Nat.le_refl _,⟨by omega,fun h=>by cases h⟩,fun _=>⟨_,rfl,fun i y hy=>World.news_of_block (cs:=#[x]) (t:=t) (fr:=(0,0)) (heap_alloc_new w _) i y hy⟩⟩
theorem a9Y(seq:Nat)(k v:ByteArray)(d:Bool)(sz:Int)(w:World)(h:k.size<1\/16<k.size):
 Calls Tryz.prog 49 #[a7Y seq k v d sz] w (c09 1 w):=by
 unfold a7Y;rcases h with h|h
 ·have h0:((k.size:Int)==0)=true:=beq_iff_eq.2 (by omega);go_enter Tryz.func49,Tryz.ntmps49
  go_wp2;go_ret2
  exact⟨rfl,Below.alloc (Below.refl _ _) (Nat.le_refl _) _⟩
 ·have h0:((k.size:Int)==0)=false:=beq_eq_false_iff_ne.2 (by omega);go_enter Tryz.func49,Tryz.ntmps49
  go_wp2;go_ret2
  exact⟨rfl,Below.alloc (Below.refl _ _) (Nat.le_refl _) _⟩
theorem a9Z(seq:Nat)(k v:ByteArray)(d:Bool)(sz:Int)(w:World)(h1:1<=k.size)(h2:k.size<=16)(h:64<v.size\/(v.size<=64/\d=true/\0<v.size)):
 Calls Tryz.prog 49 #[a7Y seq k v d sz] w (c09 2 w):=by
 unfold a7Y;have h0:((k.size:Int)==0)=false:=beq_eq_false_iff_ne.2 (by omega);have h'':¬16<k.size:=by omega
 rcases h with h|⟨h,rfl,hv⟩
 ·go_enter Tryz.func49,Tryz.ntmps49
  go_wp2;go_ret2
  exact⟨rfl,Below.alloc (Below.refl _ _) (Nat.le_refl _) _⟩
 ·have hv':v.toList.isEmpty=false:=by rw[a5H];exact decide_eq_false (by omega)
  go_enter Tryz.func49,Tryz.ntmps49
  go_wp2;go_ret2
  exact⟨rfl,Below.alloc (Below.refl _ _) (Nat.le_refl _) _⟩
theorem b2b(seq:Nat)(k v:ByteArray)(d:Bool)(sz:Int)(w:World)(h1:1<=k.size)(h2:k.size<=16)(hv:v.size<=64)(h:d=false\/v.size=0):
 Calls Tryz.prog 49 #[a7Y seq k v d sz] w (b5b (summed (body seq k.data.toList v.data.toList d)) w):=by
 unfold a7Y;obtain⟨i0,hi,hz0,hz1,hz2⟩:=info_parts a4q;have h0:((k.size:Int)==0)=false:=beq_eq_false_iff_ne.2 (by omega);have h'':¬16<k.size:=by omega
 have h3:¬64<v.size:=by omega
 have hwk:IntKind.u64.wrap (k.size:Int)=(k.size:Int):=by rw[IntKind.wrap_u64];omega
 have hwv:IntKind.u64.wrap (v.size:Int)=(v.size:Int):=by rw[IntKind.wrap_u64];omega
 rcases Bool.eq_false_or_eq_true d with rfl|rfl
 ·have hv':v.toList.isEmpty=true:=by rw[a5H];exact decide_eq_true (by simpa using h)
  go_enter Tryz.func49,Tryz.ntmps49
  go_wp2_with fail
  have hx:o7 (w.alloc (.cells #[.int .u64 seq,.string k,.string v,.bool true,.int .i64 sz] 116)) w.heap.size 116 #[.int .u64 seq,.string k,.string v,.bool true,.int .i64 sz]:=heap_alloc_new w _;have hb:Below (w.heap.size+1) (w.alloc (.cells #[.int .u64 seq,.string k,.string v,.bool true,.int .i64 sz] 116)) (w.alloc (.cells #[.int .u64 seq,.string k,.string v,.bool true,.int .i64 sz] 116)):=Below.refl _ _;have hs:w.heap.size+1<=(w.alloc (.cells #[.int .u64 seq,.string k,.string v,.bool true,.int .i64 sz] 116)).heap.size:=by simp
  refine(Y0 _ (w.heap.size+1) ([]) (seq) 8 _ (World.ownsRow_nil _ _ _ _) (by omega) (by simp[H7,I8]<;>omega) hs).mono ?_;rintro e w2 ⟨v2,rfl,hown,hbn⟩;replace hx:=hx.below hbn (by omega);replace hs:=Nat.le_trans hs hbn.size;replace hb:=hb.trans hbn;clear hbn;have hcw23:w2.cell? ⟨w.heap.size,3,none⟩=some (.bool true):=hx.cell 3;rw[List.nil_append] at hown;have hs2:w.heap.size+1<=w2.heap.size:=hs;have e3:(be seq 8++be 1 1).map byteV=(be seq 8).map byteV++[.int .u8 1]:=by rw[List.map_append];rfl
  have e3':(be seq 8++be 1 1).length=(be seq 8).length+1:=by simp[H7]
  have E3:=Lib.hid e3;clear e3;have E3':=Lib.hid e3';clear e3';go_wp2_with (at_builtin;go_must (refine D6 rfl _ _ 25 rfl (w.heap.size+1) 5 i0 (.int .u8 0) 1 1 Tryz.underlying25 hi hz0 hz1 hz2 rfl (by omega) v2 _ _ rfl (hown.alloc _) _ 1 [.int .u8 1] rfl (a6U w2 _ _) rfl (by simp[Value.oneCell']) (by simp[H7,maxLen]) (by simp[H7]) (by simp;omega) ?_);intro b3 c3 w3 hown3 hgrow3 hat3;clear hat3;have hx3:=(hx.alloc (.cells #[.int .u8 1] 5)).grown hgrow3 (fun k hk=>by have:=(hown.lt k hk).1;omega);have hc31:w3.cell? ⟨w.heap.size,1,none⟩=some (.string k):=hx3.cell 1)
  replace hb:=(hb.alloc hs (.cells #[.int .u8 1] 5)).grown hgrow3 (by simp;omega) (fun k hk=>(hown.lt k hk).1);replace hs:w.heap.size+1<=w3.heap.size:=by have:=hgrow3.size;simp at this;omega
  clear hx hown hs2;have hx:=hx3;have hown:OwnB w3 (w.heap.size+1) (.slice b3 ((be seq 8).length+1) c3) (be seq 8++be 1 1):=by
   unfold OwnB;rw[E3.out,E3'.out];exact hown3
  clear hown3 hgrow3 hx3;refine(Y0 _ (w.heap.size+1) (be seq 8++be 1 1) (k.size) 1 _ hown (by omega) (by simp[H7,I8]<;>omega) hs).mono ?_;rintro e w4 ⟨v4,rfl,hown,hbn⟩;replace hx:=hx.below hbn (by omega);replace hs:=Nat.le_trans hs hbn.size;replace hb:=hb.trans hbn;clear hbn;have hcw42:w4.cell? ⟨w.heap.size,2,none⟩=some (.string v):=hx.cell 2;go_wp2_with fail
  refine(Y0 _ (w.heap.size+1) (be seq 8++be 1 1++be k.size 1) (v.size) 2 _ hown (by omega) (by simp[H7,I8]<;>omega) hs).mono ?_;rintro e w5 ⟨v5,rfl,hown,hbn⟩;replace hx:=hx.below hbn (by omega);replace hs:=Nat.le_trans hs hbn.size;replace hb:=hb.trans hbn;clear hbn;have hcw51:w5.cell? ⟨w.heap.size,1,none⟩=some (.string k):=hx.cell 1;generalize hL:be seq 8++be 1 1++be k.size 1++be v.size 2=L5 at *;have hLl:L5.length=12:=by rw[<-hL];simp[H7]
  have HL:=Lib.hid hL;clear hL;have HLl:=Lib.hid hLl;clear hLl;go_wp2_with (first|(at_builtin;refine wpList_append_text rfl _ _ 25 9 rfl (w.heap.size+1) 5 i0 Tryz.underlying25 Tryz.underlying9 hi hz0 hz1 hz2 v5 L5 rfl hown k rfl (by rw[HLl.out];unfold maxLen;omega) (by rw[HLl.out];omega) hs ?_;intro b6 c6 w6 hown6 hgrow6;have hx6:=hx.grown hgrow6 (fun k hk=>by have:=(hown.lt k hk).1;omega);have hc62:w6.cell? ⟨w.heap.size,2,none⟩=some (.string v):=hx6.cell 2;have hs6:w.heap.size+1<=w6.heap.size:=Nat.le_trans hs hgrow6.size)|(at_builtin;refine wpList_append_text rfl _ _ 25 9 rfl (w.heap.size+1) 5 i0 Tryz.underlying25 Tryz.underlying9 hi hz0 hz1 hz2 (.slice b6 (L5.length+k.size) c6) (L5++k.data.toList) rfl hown6 v rfl (by rw[List.length_append,I8,HLl.out];unfold maxLen;omega) (by rw[List.length_append,I8,HLl.out];omega) hs6 ?_;intro b7 c7 w7 hown7 hgrow7))
  replace hb:=(hb.grown hgrow6 hs (fun k hk=>(hown.lt k hk).1)).grown hgrow7 hs6 (fun k hk=>(hown6.lt k hk).1);have hs7:w.heap.size+1<=w7.heap.size:=Nat.le_trans hs6 hgrow7.size;have hI:OwnB w7 (w.heap.size+1) (.slice b7 (L5.length+k.size+v.size) c7) (body seq k.data.toList v.data.toList true):=by
   rw[show(L5++k.data.toList).length=L5.length+k.size by rw[List.length_append,I8]] at hown7;rw[show L5++k.data.toList++v.data.toList=body seq k.data.toList v.data.toList true by rw[<-HL.out];simp[body,I8]] at hown7;exact hown7
  have hIl:(body seq k.data.toList v.data.toList true).length<=92:=by simp[body,H7,I8];omega
  clear hown7 hgrow7 hown6 hgrow6 hx hx6 hc62 hs6 hs;generalize Value.slice b7 (L5.length+k.size+v.size) c7=v7 at *;generalize body seq k.data.toList v.data.toList true=I at *;refine(a2j v7 I w7 hI.bytes).mono ?_;rintro e w8 ⟨rfl,rfl⟩;have hwc:IntKind.u64.wrap ((crc I:Nat):Int)=((crc I:Nat):Int):=by rw[IntKind.wrap_u64];have:=a4e I;omega
  go_wp2_with fail
  refine(Y0 _ w7.heap.size [] (crc I) 4 _ (World.ownsRow_nil _ _ _ _) (by omega) (by simp) (Nat.le_refl _)).mono ?_;rintro e w9 ⟨v9,rfl,hown9,hb9⟩;rw[List.nil_append] at hown9;generalize hC:be (crc I) 4=C at *;have hCl:C.length=4:=by rw[<-hC,H7]
  have HC:=Lib.hid hC;clear hC;have HCl:=Lib.hid hCl;clear hCl;clear hwc;go_wp2_with (at_builtin;go_must (refine D6 rfl _ _ 25 rfl w7.heap.size 5 i0 (.int .u8 0) 1 1 Tryz.underlying25 hi hz0 hz1 hz2 rfl (by omega) v9 C.length _ rfl hown9 v7 I.length (I.map byteV) rfl (hI.bytes.ext hb9) (by simp) (a0S _) (by rw[HCl.out];unfold maxLen;omega) (by rw[HCl.out];omega) hb9.size ?_);intro b10 c10 w10 hown10 hgrow10 hat10;clear hat10)
  go_ret2
  refine⟨_,rfl,?_,?_⟩
  ·unfold OwnB;have e1:(summed I).map byteV=C.map byteV++I.map byteV:=by rw[<-List.map_append,summed,HC.out]
   have e2:(summed I).length=C.length+I.length:=by rw[summed,HC.out,List.length_append]
   rw[e1,e2];exact J8 hown10 (by omega)
  ·have h9:Below (w.heap.size+1) w7 w10:=(hb9.mono hs7).grown hgrow10 (Nat.le_trans hs7 hb9.size) (fun k hk=>by have:=(hown9.lt k hk).1;omega);exact(Below.alloc (Below.refl _ _) (Nat.le_refl _) _).trans ((hb.trans h9).mono (by omega))
 ·go_enter Tryz.func49,Tryz.ntmps49
  go_wp2_with fail
  have hx:o7 (w.alloc (.cells #[.int .u64 seq,.string k,.string v,.bool false,.int .i64 sz] 116)) w.heap.size 116 #[.int .u64 seq,.string k,.string v,.bool false,.int .i64 sz]:=heap_alloc_new w _;have hb:Below (w.heap.size+1) (w.alloc (.cells #[.int .u64 seq,.string k,.string v,.bool false,.int .i64 sz] 116)) (w.alloc (.cells #[.int .u64 seq,.string k,.string v,.bool false,.int .i64 sz] 116)):=Below.refl _ _;have hs:w.heap.size+1<=(w.alloc (.cells #[.int .u64 seq,.string k,.string v,.bool false,.int .i64 sz] 116)).heap.size:=by simp
  refine(Y0 _ (w.heap.size+1) ([]) (seq) 8 _ (World.ownsRow_nil _ _ _ _) (by omega) (by simp[H7,I8]<;>omega) hs).mono ?_;rintro e w2 ⟨v2,rfl,hown,hbn⟩;replace hx:=hx.below hbn (by omega);replace hs:=Nat.le_trans hs hbn.size;replace hb:=hb.trans hbn;clear hbn;have hcw23:w2.cell? ⟨w.heap.size,3,none⟩=some (.bool false):=hx.cell 3;rw[List.nil_append] at hown;have hs2:w.heap.size+1<=w2.heap.size:=hs;have e3:(be seq 8++be 0 1).map byteV=(be seq 8).map byteV++[.int .u8 0]:=by rw[List.map_append];rfl
  have e3':(be seq 8++be 0 1).length=(be seq 8).length+1:=by simp[H7]
  have E3:=Lib.hid e3;clear e3;have E3':=Lib.hid e3';clear e3';go_wp2_with (at_builtin;go_must (refine D6 rfl _ _ 25 rfl (w.heap.size+1) 5 i0 (.int .u8 0) 1 1 Tryz.underlying25 hi hz0 hz1 hz2 rfl (by omega) v2 _ _ rfl (hown.alloc _) _ 1 [.int .u8 0] rfl (a6U w2 _ _) rfl (by simp[Value.oneCell']) (by simp[H7,maxLen]) (by simp[H7]) (by simp;omega) ?_);intro b3 c3 w3 hown3 hgrow3 hat3;clear hat3;have hx3:=(hx.alloc (.cells #[.int .u8 0] 5)).grown hgrow3 (fun k hk=>by have:=(hown.lt k hk).1;omega);have hc31:w3.cell? ⟨w.heap.size,1,none⟩=some (.string k):=hx3.cell 1)
  replace hb:=(hb.alloc hs (.cells #[.int .u8 0] 5)).grown hgrow3 (by simp;omega) (fun k hk=>(hown.lt k hk).1);replace hs:w.heap.size+1<=w3.heap.size:=by have:=hgrow3.size;simp at this;omega
  clear hx hown hs2;have hx:=hx3;have hown:OwnB w3 (w.heap.size+1) (.slice b3 ((be seq 8).length+1) c3) (be seq 8++be 0 1):=by
   unfold OwnB;rw[E3.out,E3'.out];exact hown3
  clear hown3 hgrow3 hx3;refine(Y0 _ (w.heap.size+1) (be seq 8++be 0 1) (k.size) 1 _ hown (by omega) (by simp[H7,I8]<;>omega) hs).mono ?_;rintro e w4 ⟨v4,rfl,hown,hbn⟩;replace hx:=hx.below hbn (by omega);replace hs:=Nat.le_trans hs hbn.size;replace hb:=hb.trans hbn;clear hbn;have hcw42:w4.cell? ⟨w.heap.size,2,none⟩=some (.string v):=hx.cell 2;go_wp2_with fail
  refine(Y0 _ (w.heap.size+1) (be seq 8++be 0 1++be k.size 1) (v.size) 2 _ hown (by omega) (by simp[H7,I8]<;>omega) hs).mono ?_;rintro e w5 ⟨v5,rfl,hown,hbn⟩;replace hx:=hx.below hbn (by omega);replace hs:=Nat.le_trans hs hbn.size;replace hb:=hb.trans hbn;clear hbn;have hcw51:w5.cell? ⟨w.heap.size,1,none⟩=some (.string k):=hx.cell 1;generalize hL:be seq 8++be 0 1++be k.size 1++be v.size 2=L5 at *;have hLl:L5.length=12:=by rw[<-hL];simp[H7]
  have HL:=Lib.hid hL;clear hL;have HLl:=Lib.hid hLl;clear hLl;go_wp2_with (first|(at_builtin;refine wpList_append_text rfl _ _ 25 9 rfl (w.heap.size+1) 5 i0 Tryz.underlying25 Tryz.underlying9 hi hz0 hz1 hz2 v5 L5 rfl hown k rfl (by rw[HLl.out];unfold maxLen;omega) (by rw[HLl.out];omega) hs ?_;intro b6 c6 w6 hown6 hgrow6;have hx6:=hx.grown hgrow6 (fun k hk=>by have:=(hown.lt k hk).1;omega);have hc62:w6.cell? ⟨w.heap.size,2,none⟩=some (.string v):=hx6.cell 2;have hs6:w.heap.size+1<=w6.heap.size:=Nat.le_trans hs hgrow6.size)|(at_builtin;refine wpList_append_text rfl _ _ 25 9 rfl (w.heap.size+1) 5 i0 Tryz.underlying25 Tryz.underlying9 hi hz0 hz1 hz2 (.slice b6 (L5.length+k.size) c6) (L5++k.data.toList) rfl hown6 v rfl (by rw[List.length_append,I8,HLl.out];unfold maxLen;omega) (by rw[List.length_append,I8,HLl.out];omega) hs6 ?_;intro b7 c7 w7 hown7 hgrow7))
  replace hb:=(hb.grown hgrow6 hs (fun k hk=>(hown.lt k hk).1)).grown hgrow7 hs6 (fun k hk=>(hown6.lt k hk).1);have hs7:w.heap.size+1<=w7.heap.size:=Nat.le_trans hs6 hgrow7.size;have hI:OwnB w7 (w.heap.size+1) (.slice b7 (L5.length+k.size+v.size) c7) (body seq k.data.toList v.data.toList false):=by
   rw[show(L5++k.data.toList).length=L5.length+k.size by rw[List.length_append,I8]] at hown7;rw[show L5++k.data.toList++v.data.toList=body seq k.data.toList v.data.toList false by rw[<-HL.out];simp[body,I8]] at hown7;exact hown7
  have hIl:(body seq k.data.toList v.data.toList false).length<=92:=by simp[body,H7,I8];omega
  clear hown7 hgrow7 hown6 hgrow6 hx hx6 hc62 hs6 hs;generalize Value.slice b7 (L5.length+k.size+v.size) c7=v7 at *;generalize body seq k.data.toList v.data.toList false=I at *;refine(a2j v7 I w7 hI.bytes).mono ?_;rintro e w8 ⟨rfl,rfl⟩;have hwc:IntKind.u64.wrap ((crc I:Nat):Int)=((crc I:Nat):Int):=by rw[IntKind.wrap_u64];have:=a4e I;omega
  go_wp2_with fail
  refine(Y0 _ w7.heap.size [] (crc I) 4 _ (World.ownsRow_nil _ _ _ _) (by omega) (by simp) (Nat.le_refl _)).mono ?_;rintro e w9 ⟨v9,rfl,hown9,hb9⟩;rw[List.nil_append] at hown9;generalize hC:be (crc I) 4=C at *;have hCl:C.length=4:=by rw[<-hC,H7]
  have HC:=Lib.hid hC;clear hC;have HCl:=Lib.hid hCl;clear hCl;clear hwc;go_wp2_with (at_builtin;go_must (refine D6 rfl _ _ 25 rfl w7.heap.size 5 i0 (.int .u8 0) 1 1 Tryz.underlying25 hi hz0 hz1 hz2 rfl (by omega) v9 C.length _ rfl hown9 v7 I.length (I.map byteV) rfl (hI.bytes.ext hb9) (by simp) (a0S _) (by rw[HCl.out];unfold maxLen;omega) (by rw[HCl.out];omega) hb9.size ?_);intro b10 c10 w10 hown10 hgrow10 hat10;clear hat10)
  go_ret2
  refine⟨_,rfl,?_,?_⟩
  ·unfold OwnB;have e1:(summed I).map byteV=C.map byteV++I.map byteV:=by rw[<-List.map_append,summed,HC.out]
   have e2:(summed I).length=C.length+I.length:=by rw[summed,HC.out,List.length_append]
   rw[e1,e2];exact J8 hown10 (by omega)
  ·have h9:Below (w.heap.size+1) w7 w10:=(hb9.mono hs7).grown hgrow10 (Nat.le_trans hs7 hb9.size) (fun k hk=>by have:=(hown9.lt k hk).1;omega);exact(Below.alloc (Below.refl _ _) (Nat.le_refl _) _).trans ((hb.trans h9).mono (by omega))
end
section
open Go.RowKit Go.Lib Pl
def a0n:Value:=.agg #[.int .u64 0,.string ⟨#[]⟩,.string ⟨#[]⟩,.bool false,.int .i64 0]
def O1:Option Rec->Value
 | none=>.tuple #[a0n,.bool false]
 | some r=>.tuple #[.agg #[.int .u64 r.seq,.string ⟨r.key.toArray⟩,.string ⟨r.val.toArray⟩,.bool r.del,.int .i64 r.size],.bool true]
def c08(r:Option Rec)(w:World)(e:Ending)(w':World):Prop:=e=.returned (O1 r)/\Ext w w'
theorem c3a(b:UInt8):num [b]=b.toNat:=by simp[num]
theorem c44{l:List UInt8}{k:Nat}(h:k<l.length):(l.drop k).take 1=[l[k]]:=by
 rw[List.drop_eq_getElem_cons h];rfl
theorem Bytes.at{w:World}{ad:Addr}{cap:Nat}{l:List UInt8}(h:Bytes w (.slice (some ad) l.length cap) l)(k:Nat)(hk:k<l.length):w.cell? (ad.add k)=some (.int .u8 (num ((l.drop k).take 1))):=by
 obtain⟨a',c,hv,h1,h2,h3⟩:=h;injection hv with ha;obtain⟨b,hb,hc⟩:=h3 (by intro e;simp at e;subst e;simp at hk);rw[hb] at ha;injection ha with ha;subst ha;rw[c44 hk,c3a];exact hc k _ (by rw[List.getElem?_map,List.getElem?_eq_getElem hk];rfl)
theorem a9X(v:Value)(l:List UInt8)(w:World)(h:Bytes w v l):
 Calls Tryz.prog 125 #[v] w (c08 (dec l) w):=by
 have HD:good l=false->dec l=none:=by intro h;unfold dec;rw[h];rfl
 obtain⟨a,cap,rfl,h1,h2,h3⟩:=id h;clear h3;by_cases c0:l.length<16
 ·have hd:dec l=none:=HD (by unfold good;rw[decide_eq_false (by omega)];rfl);clear h;go_enter Tryz.func125,Tryz.ntmps125
  go_wp2;refine bodyPost_ret (v:=O1 none) ?_ rfl ⟨by first|rfl|rw[hd],?_⟩
  ·simp[results,Tryz.results125,go_sem,O1,a0n]
  ·exact((Ext.refl w).new _).new _
 obtain⟨ad,rfl⟩:∃ad,a=some ad:=by
  cases a with
  | none=>have:=h2.2 rfl;omega
  | some ad=>exact⟨ad,rfl⟩
 have hc12:w.cell? ⟨ad.block,ad.off+12,none⟩=some (.int .u8 (P7 l)):=h.at 12 (by omega);have hc13:w.cell? ⟨ad.block,ad.off+13,none⟩=some (.int .u8 (D8 l)):=h.at 13 (by omega);have HB:=Lib.hid h;clear h;have h16:16<=l.length:=by omega
 have hk256:D8 l<256:=O3 (l.drop 13) 1;have hf256:P7 l<256:=O3 (l.drop 12) 1;have hv256:H5 l<65536:=O3 (l.drop 14) 2;have hm1:num (l.take 4)<4294967296:=O3 l 4;have hwk:IntKind.i64.wrap (D8 l:Int)=(D8 l:Int):=IntWalk.i64_in _ (by omega);have hwv:IntKind.i64.wrap (H5 l:Int)=(H5 l:Int):=IntWalk.i64_in _ (by omega);have hsl:∀W:World,Ext w W->∀i j,0<i->i<=j->j<=l.length->i<cap->Bytes W (.slice (some ⟨ad.block,ad.off+i,none⟩) (j - i) (cap - i)) ((l.take j).drop i):=by
  intro W hW i j h0 hij hj hc;have:=(HB.out.ext hW).sliced i j hij hj;rw[if_neg (by omega)] at this;have e:(some ad).map (·.add i)=some ⟨ad.block,ad.off+i,none⟩:=by
   show some (ad.add i)=_;unfold Addr.add;rw[if_neg (by omega)]
  rw[e] at this;exact this
 have HS:=Lib.hid hsl;clear hsl;have hE0:Ext w ((w.alloc (.cells #[.int .u64 0,.string ⟨#[]⟩,.string ⟨#[]⟩,.bool false,.int .i64 0] 116)).alloc (.cells #[.int .u64 0,.string ⟨#[]⟩,.string ⟨#[]⟩,.bool false,.int .i64 0] 116)):=((Ext.refl w).new _).new _;have X:o7 ((w.alloc (.cells #[.int .u64 0,.string ⟨#[]⟩,.string ⟨#[]⟩,.bool false,.int .i64 0] 116)).alloc (.cells #[.int .u64 0,.string ⟨#[]⟩,.string ⟨#[]⟩,.bool false,.int .i64 0] 116)) w.heap.size 116 #[.int .u64 0,.string ⟨#[]⟩,.string ⟨#[]⟩,.bool false,.int .i64 0]:=(o7.new _ _ rfl).alloc _;have Y:o7 ((w.alloc (.cells #[.int .u64 0,.string ⟨#[]⟩,.string ⟨#[]⟩,.bool false,.int .i64 0] 116)).alloc (.cells #[.int .u64 0,.string ⟨#[]⟩,.string ⟨#[]⟩,.bool false,.int .i64 0] 116)) (w.heap.size+1) 116 #[.int .u64 0,.string ⟨#[]⟩,.string ⟨#[]⟩,.bool false,.int .i64 0]:=o7.new _ _ (by simp);have hd12:=hE0.cell hc12;have hd13:=hE0.cell hc13;go_enter Tryz.func125,Tryz.ntmps125
 go_wp2_with fail
 refine(V8 _ ((l.take 16).drop 14) _ (HS.out _ hE0 14 16 (by omega) (by omega) (by omega) (by omega)) (by simp;omega)).mono ?_;rintro e W ⟨rfl,hw⟩;rw[hw] at hE0 X Y hd12 hd13;clear hw;have ev:num ((l.take 16).drop 14)=H5 l:=by unfold H5;rw[List.drop_take]
 rw[ev];clear ev;have yc0:=Y.cell 0;have yc1:=Y.cell 1;have yc2:=Y.cell 2;have yc3:=Y.cell 3;have yc4:=Y.cell 4;have xc0:=X.cell 0;have xf0:=X.free 0;have xc1:=X.cell 1;have xf1:=X.free 1;have xc2:=X.cell 2;have xf2:=X.free 2;have xc3:=X.cell 3;have xf3:=X.free 3;have xc4:=X.cell 4;have xf4:=X.free 4;by_cases c1:l.length<16+D8 l+H5 l
 ·have hd:dec l=none:=HD (by unfold good;rw[decide_eq_false (by omega)];rfl);go_wp2;refine bodyPost_ret (v:=O1 none) ?_ rfl ⟨by first|rfl|rw[hd],?_⟩
  ·simp[results,Tryz.results125,go_sem,O1,a0n,xc0,xc1,xc2,xc3,xc4]
  ·repeat' refine Ext.setN ?_ (by simp)
   exact hE0
 have hcap:16+D8 l+H5 l<=cap:=by omega
 go_wp2_with fail
 refine(a2j _ ((l.take (16+D8 l+H5 l)).drop 4) _ (HS.out _ hE0 4 (16+D8 l+H5 l) (by omega) (by omega) (by omega) (by omega))).mono ?_;rintro e W' ⟨rfl,rfl⟩;have hq:Bytes W (.slice (some ad) 4 cap) (l.take 4):=by
  have:=(HB.out.ext hE0).sliced 0 4 (by omega) (by omega);rw[if_neg (by omega)] at this;exact this
 go_wp2_with fail
 refine(V8 _ (l.take 4) _ hq (by simp;omega)).mono ?_;rintro e W' ⟨rfl,rfl⟩;have hwc:IntKind.u64.wrap (crc ((l.take (16+D8 l+H5 l)).drop 4):Int)=(crc ((l.take (16+D8 l+H5 l)).drop 4):Int):=by
  have:=a4e ((l.take (16+D8 l+H5 l)).drop 4);rw[IntKind.wrap_u64];omega
 by_cases hcr:crc ((l.take (16+D8 l+H5 l)).drop 4)=num (l.take 4)
 case neg=>
  have hcr':((num (l.take 4):Int) != (crc ((l.take (16+D8 l+H5 l)).drop 4):Int))=true:=by rw[bne,beq_eq_false_iff_ne.2 (by omega)];rfl
  have hd:dec l=none:=HD (by unfold good;rw[decide_eq_false hcr];simp);go_wp2;refine bodyPost_ret (v:=O1 none) ?_ rfl ⟨by first|rfl|rw[hd],?_⟩
  ·simp[results,Tryz.results125,go_sem,O1,a0n,xc0,xc1,xc2,xc3,xc4]
  ·repeat' refine Ext.setN ?_ (by simp)
   exact hE0
 have hcr':((num (l.take 4):Int) != (crc ((l.take (16+D8 l+H5 l)).drop 4):Int))=false:=by rw[bne,beq_iff_eq.2 (by omega)];rfl
 by_cases c2:1<P7 l
 ·have hd:dec l=none:=HD (by unfold good;rw[show decide (P7 l<=1)=false from decide_eq_false (by omega)];simp);go_wp2;refine bodyPost_ret (v:=O1 none) ?_ rfl ⟨by first|rfl|rw[hd],?_⟩
  ·simp[results,Tryz.results125,go_sem,O1,a0n,xc0,xc1,xc2,xc3,xc4]
  ·repeat' refine Ext.setN ?_ (by simp)
   exact hE0
 by_cases c3:D8 l<1
 ·have hd:dec l=none:=HD (by unfold good;rw[show decide (1<=D8 l)=false from decide_eq_false (by omega)];simp);have hk0:((D8 l:Int)==0)=true:=beq_iff_eq.2 (by omega);go_wp2;refine bodyPost_ret (v:=O1 none) ?_ rfl ⟨by first|rfl|rw[hd],?_⟩
  ·simp[results,Tryz.results125,go_sem,O1,a0n,xc0,xc1,xc2,xc3,xc4]
  ·repeat' refine Ext.setN ?_ (by simp)
   exact hE0
 have hk0:((D8 l:Int)==0)=false:=beq_eq_false_iff_ne.2 (by omega);by_cases c4:16<D8 l
 ·have hd:dec l=none:=HD (by unfold good;rw[show decide (D8 l<=16)=false from decide_eq_false (by omega)];simp);go_wp2;refine bodyPost_ret (v:=O1 none) ?_ rfl ⟨by first|rfl|rw[hd],?_⟩
  ·simp[results,Tryz.results125,go_sem,O1,a0n,xc0,xc1,xc2,xc3,xc4]
  ·repeat' refine Ext.setN ?_ (by simp)
   exact hE0
 by_cases c5:64<H5 l
 ·have hd:dec l=none:=HD (by unfold good;rw[show decide (H5 l<=64)=false from decide_eq_false (by omega)];simp);go_wp2;refine bodyPost_ret (v:=O1 none) ?_ rfl ⟨by first|rfl|rw[hd],?_⟩
  ·simp[results,Tryz.results125,go_sem,O1,a0n,xc0,xc1,xc2,xc3,xc4]
  ·repeat' refine Ext.setN ?_ (by simp)
   exact hE0
 by_cases c6:P7 l=1/\0<H5 l
 ·have hd:dec l=none:=HD (by unfold good;rw[show decide (P7 l=1)=true from decide_eq_true c6.1,show decide (0<H5 l)=true from decide_eq_true c6.2];simp);have hf1:((P7 l:Int)==1)=true:=beq_iff_eq.2 (by omega);have hv0:=c6.2;go_wp2;refine bodyPost_ret (v:=O1 none) ?_ rfl ⟨by first|rfl|rw[hd],?_⟩
  ·simp[results,Tryz.results125,go_sem,O1,a0n,xc0,xc1,xc2,xc3,xc4]
  ·repeat' refine Ext.setN ?_ (by simp)
   exact hE0
 by_cases hf:P7 l=1
 ·have hv0:¬0<H5 l:=fun h=>c6 ⟨hf,h⟩;have hf1:((P7 l:Int)==1)=true:=beq_iff_eq.2 (by omega);have hdec:dec l=some ⟨num ((l.drop 4).take 8),(l.drop 16).take (D8 l),(l.drop (16+D8 l)).take (H5 l),true,16+D8 l+H5 l⟩:=by
   unfold dec;rw[if_pos (by unfold good;rw[decide_eq_true (show 16+D8 l+H5 l<=l.length by omega),decide_eq_true hcr,decide_eq_true (show P7 l<=1 by omega),decide_eq_true (show 1<=D8 l by omega),decide_eq_true (show D8 l<=16 by omega),decide_eq_true (show H5 l<=64 by omega),decide_eq_false (show ¬0<H5 l by omega),Bool.and_false];rfl)];simp[hf]
  go_wp2_with fail
  refine(V8 _ ((l.take 12).drop 4) _ (HS.out _ hE0 4 12 (by omega) (by omega) (by omega) (by omega)) (by simp;omega)).mono ?_;rintro e W' ⟨rfl,rfl⟩;go_wp2_with fail
  have hE1:Ext w W.drew:=Ext.trans hE0 (Ext.drewN W 1);have hq1:=Q8 (HS.out _ hE1 16 (16+D8 l) (by omega) (by omega) (by omega) (by omega));have hq1':=Q8 (HS.out _ hE1 16 (16+D8 l) (by omega) (by omega) (by omega) (by omega));rw[show 16+D8 l - 16=D8 l by omega] at hq1;have hq2:=Q8 ((HB.out.ext hE1).sliced (16+D8 l) (16+D8 l+H5 l) (by omega) (by omega));by_cases hcc:cap=16+D8 l
  ·rw[if_pos hcc] at hq2;have hq2':=hq2;rw[show 16+D8 l+H5 l - (16+D8 l)=H5 l by omega] at hq2';have hcT:(cap=16+D8 l)=True:=eq_true hcc;clear hcc;go_region
   go_wp2;all_goals
    refine bodyPost_ret (v:=O1 (some ⟨num ((l.drop 4).take 8),(l.drop 16).take (D8 l),(l.drop (16+D8 l)).take (H5 l),true,16+D8 l+H5 l⟩)) ?_ rfl ⟨?_,?_⟩
    ·simp[results,Tryz.results125,go_sem,O1,a0n,xc0,xc1,xc2,xc3,xc4,List.drop_take]
    ·first|rfl|rw[hdec]
    ·refine Ext.trans ?_ (Ext.drewN _ 1);repeat' refine Ext.setN ?_ (by simp)
     exact hE0
  ·rw[if_neg hcc] at hq2;have e:(some ad).map (·.add (16+D8 l))=some (ad.add (16+D8 l)):=rfl;rw[e] at hq2;have hq2':=hq2;rw[show 16+D8 l+H5 l - (16+D8 l)=H5 l by omega] at hq2';go_region
   go_wp2;all_goals
    refine bodyPost_ret (v:=O1 (some ⟨num ((l.drop 4).take 8),(l.drop 16).take (D8 l),(l.drop (16+D8 l)).take (H5 l),true,16+D8 l+H5 l⟩)) ?_ rfl ⟨?_,?_⟩
    ·simp[results,Tryz.results125,go_sem,O1,a0n,xc0,xc1,xc2,xc3,xc4,List.drop_take]
    ·first|rfl|rw[hdec]
    ·refine Ext.trans ?_ (Ext.drewN _ 1);repeat' refine Ext.setN ?_ (by simp)
     exact hE0
 ·have hf1:((P7 l:Int)==1)=false:=beq_eq_false_iff_ne.2 (by omega);have hdec:dec l=some ⟨num ((l.drop 4).take 8),(l.drop 16).take (D8 l),(l.drop (16+D8 l)).take (H5 l),false,16+D8 l+H5 l⟩:=by
   unfold dec;rw[if_pos (by unfold good;rw[decide_eq_true (show 16+D8 l+H5 l<=l.length by omega),decide_eq_true hcr,decide_eq_true (show P7 l<=1 by omega),decide_eq_true (show 1<=D8 l by omega),decide_eq_true (show D8 l<=16 by omega),decide_eq_true (show H5 l<=64 by omega),decide_eq_false hf];rfl)];simp[hf]
  go_wp2_with fail
  refine(V8 _ ((l.take 12).drop 4) _ (HS.out _ hE0 4 12 (by omega) (by omega) (by omega) (by omega)) (by simp;omega)).mono ?_;rintro e W' ⟨rfl,rfl⟩;go_wp2_with fail
  have hE1:Ext w W.drew:=Ext.trans hE0 (Ext.drewN W 1);have hq1:=Q8 (HS.out _ hE1 16 (16+D8 l) (by omega) (by omega) (by omega) (by omega));have hq1':=Q8 (HS.out _ hE1 16 (16+D8 l) (by omega) (by omega) (by omega) (by omega));rw[show 16+D8 l - 16=D8 l by omega] at hq1;have hq2:=Q8 ((HB.out.ext hE1).sliced (16+D8 l) (16+D8 l+H5 l) (by omega) (by omega));by_cases hcc:cap=16+D8 l
  ·rw[if_pos hcc] at hq2;have hq2':=hq2;rw[show 16+D8 l+H5 l - (16+D8 l)=H5 l by omega] at hq2';have hcT:(cap=16+D8 l)=True:=eq_true hcc;clear hcc;go_region
   go_wp2;all_goals
    refine bodyPost_ret (v:=O1 (some ⟨num ((l.drop 4).take 8),(l.drop 16).take (D8 l),(l.drop (16+D8 l)).take (H5 l),false,16+D8 l+H5 l⟩)) ?_ rfl ⟨?_,?_⟩
    ·simp[results,Tryz.results125,go_sem,O1,a0n,xc0,xc1,xc2,xc3,xc4,List.drop_take]
    ·first|rfl|rw[hdec]
    ·refine Ext.trans ?_ (Ext.drewN _ 1);repeat' refine Ext.setN ?_ (by simp)
     exact hE0
  ·rw[if_neg hcc] at hq2;have e:(some ad).map (·.add (16+D8 l))=some (ad.add (16+D8 l)):=rfl;rw[e] at hq2;have hq2':=hq2;rw[show 16+D8 l+H5 l - (16+D8 l)=H5 l by omega] at hq2';go_region
   go_wp2;all_goals
    refine bodyPost_ret (v:=O1 (some ⟨num ((l.drop 4).take 8),(l.drop 16).take (D8 l),(l.drop (16+D8 l)).take (H5 l),false,16+D8 l+H5 l⟩)) ?_ rfl ⟨?_,?_⟩
    ·simp[results,Tryz.results125,go_sem,O1,a0n,xc0,xc1,xc2,xc3,xc4,List.drop_take]
    ·first|rfl|rw[hdec]
    ·refine Ext.trans ?_ (Ext.drewN _ 1);repeat' refine Ext.setN ?_ (by simp)
     exact hE0
end
section
open Go.RowKit Go.Lib Pl
theorem c2J(n:Int)(w:World):Calls Tryz.prog 18 #[.int .i64 n] w fun e w'=>e=.returned (.int .i64 n)/\w=w':=by
 go_enter Tryz.func18,Tryz.ntmps18
 go_wp2;go_ret;exact⟨rfl,rfl⟩
theorem b4u(seq:Nat)(k v:ByteArray)(d:Bool)(w:World):
 Calls Tryz.prog 48 #[c4f seq k v d] w fun e w'=>e=.returned (a7Y seq k v d 0)/\Ext w w':=by
 unfold c4f;go_enter Tryz.func48,Tryz.ntmps48
 go_wp2;refine bodyPost_ret (v:=a7Y seq k v d 0) (by simp[results,Tryz.results48,go_sem,a7Y]) rfl ⟨rfl,((Ext.refl w).new _).new _⟩
end
end Go.Proofs.YtgpbhjjajpbeeaaGreatDoor
