/- A part of what the last file proves. -/
import Derived.Test.YtgpbhjjajpbeeaaGreatDoorA17
import Derived.Shelf.Strings.Builder1
import Derived.Shelf.Strings.Builder2
import Derived.Shelf.Strings.Trim
import Derived.Shelf.Small.Utf8
import Derived.Shelf.Small.Bits
import Derived.Shelf.Small.Strs
import Derived.Shelf.Small.Wraps
import Derived.Shelf.Strings.BuilderF
import Derived.Shelf.Strings.BuilderK
import Derived.Shelf.Strings.Builder2Cap
import Derived.Shelf.Strconv.Itoa0
import Derived.Shelf.Strconv.Itoa1
import Derived.Shelf.LaysM
import Derived.Shelf.Strconv.Itoa2
import Derived.Shelf.Strconv.Itoa3
import Derived.Shelf.Strings.Search1
import Derived.Shelf.Sort.Plain
import Derived.Shelf.Strings.Prefix
import Derived.Shelf.Unicode.Decode
import Derived.Shelf.Strings.Runes
import Derived.Shelf.Strings.AsciiSet
import Derived.Shelf.Bits.Mul64
import Derived.Shelf.Strings.Repeat
import Derived.Shelf.Unicode.DecodeSlow
import Derived.Shelf.Unicode.DecodeAny
import Derived.Shelf.Unicode.DecodeLast
import Derived.Shelf.Strings.BuilderCap
import Derived.Shelf.Slices.Turned
import Derived.Shelf.Slices.In.SortNone
import Derived.Sort.OwnSorted
import Derived.Shelf.Strings.SlTrimAscii
set_option linter.all false
set_option maxRecDepth 100000
set_option maxHeartbeats 1600000
open Go.Proofs.Tryz
namespace Go.Proofs
open Go.Shelf
def Tryz.lays160_ren:Go.Shelf.Ren:=⟨λ|160=>170|232=>195|231=>194|227=>196|234=>198|233=>197|236=>200|235=>199|228=>214|271=>217|151=>216|197=>215|120=>225|152=>224|260=>223|137=>228|119=>229|224=>230|225=>231|217=>232|266=>233|n=>n,λ|9=>9|4=>4|3=>3|5=>5|117=>332|116=>331|0=>0|124=>335|21=>21|105=>349|46=>56|119=>360|139=>363|138=>362|n=>n,λ|3=>3|4=>4|n=>n⟩
def Tryz.lays160:Go.Proofs.Lays.n160 prog Tryz.lays160_ren:={
 mixed:=aW
 f119:=func229.trans (congrArg some<|aW)
 f120:=func225.trans (congrArg some<|aW)
 f137:=func228.trans (congrArg some<|aW)
 f151:=func216.trans (congrArg some<|aW)
 f152:=func224.trans (congrArg some<|aW)
 f160:=func170.trans (congrArg some<|aW)
 f197:=func215.trans (congrArg some<|aW)
 f217:=func232.trans (congrArg some<|aW)
 f224:=func230.trans (congrArg some<|aW)
 f225:=func231.trans (congrArg some<|aW)
 f227:=func196.trans (congrArg some<|aW)
 f228:=func214.trans (congrArg some<|aW)
 f231:=func194.trans (congrArg some<|aW)
 f232:=func195.trans (congrArg some<|aW)
 f233:=func197.trans (congrArg some<|aW)
 f234:=func198.trans (congrArg some<|aW)
 f235:=func199.trans (congrArg some<|aW)
 f236:=func200.trans (congrArg some<|aW)
 f260:=func223.trans (congrArg some<|aW)
 f266:=func233.trans (congrArg some<|aW)
 f271:=func217.trans (congrArg some<|aW)
 t0:=underlying0
 a0:=isAgg0
 z0:=sizeOf0
 v0:=zeroValue0
 t3:=underlying3
 a3:=isAgg3
 z3:=sizeOf3
 v3:=zeroValue3
 t4:=underlying4
 a4:=isAgg4
 z4:=sizeOf4
 v4:=zeroValue4
 t5:=underlying5
 a5:=isAgg5
 z5:=sizeOf5
 v5:=zeroValue5
 t9:=underlying9
 a9:=isAgg9
 z9:=sizeOf9
 v9:=zeroValue9
 t21:=underlying21
 a21:=isAgg21
 z21:=sizeOf21
 v21:=zeroValue21
 t46:=underlying56
 a46:=isAgg56
 z46:=sizeOf56
 v46:=zeroValue56
 t105:=underlying349
 a105:=isAgg349
 z105:=sizeOf349
 v105:=zeroValue349
 t116:=underlying331
 a116:=isAgg331
 z116:=sizeOf331
 t117:=underlying332
 a117:=isAgg332
 z117:=sizeOf332
 v117:=zeroValue332
 t119:=underlying360
 a119:=isAgg360
 z119:=sizeOf360
 t124:=underlying335
 a124:=isAgg335
 z124:=sizeOf335
 v124:=zeroValue335
 t138:=underlying362
 a138:=isAgg362
 z138:=sizeOf362
 v138:=zeroValue362
 t139:=underlying363
 a139:=isAgg363
 z139:=sizeOf363
 v139:=zeroValue363
 g3:=aW
 g4:=aW}
def Tryz.lays103_ren:Go.Shelf.Ren:=⟨λ|103=>169|210=>193|206=>177|n=>n,λ|9=>9|4=>4|24=>304|3=>3|n=>n,λ|n=>n⟩
def Tryz.lays103:Go.Proofs.Lays.n103 prog Tryz.lays103_ren:={
 mixed:=rfl
 f103:=func169.trans (congrArg _<|rfl)
 f206:=func177.trans (congrArg _<|rfl)
 f210:=func193.trans rfl
 t3:=underlying3
 a3:=isAgg3
 z3:=sizeOf3
 v3:=zeroValue3
 t4:=underlying4
 a4:=isAgg4
 z4:=sizeOf4
 v4:=zeroValue4
 t9:=underlying9
 a9:=isAgg9
 z9:=sizeOf9
 v9:=zeroValue9
 t24:=underlying304
 a24:=isAgg304
 z24:=sizeOf304
 v24:=zeroValue304}
open Go.RowKit in
def Tryz.strings_CutPrefix(s p:ByteArray)(w:aB):
 Calls prog 169 #[.string s,.string p] w λe w'=>e=.returned (.tuple #[.string ⟨(Lib.trimPrefix s.data.toList p.data.toList).toArray⟩,.bool (Lib.hasPrefix s.data.toList p.data.toList)])/\w'=w:=Any.strings_CutPrefix Tryz.lays103 s p w
def Tryz.laysM246_ren:Go.Shelf.Ren:=⟨λ|246=>174|283=>202|284=>203|285=>204|286=>205|129=>190|317=>218|318=>219|319=>220|320=>221|337=>226|338=>227|n=>n,λ|2=>2|3=>3|9=>9|4=>4|171=>337|0=>0|53=>24|37=>25|5=>5|173=>339|212=>353|51=>147|20=>20|213=>354|46=>56|232=>367|233=>368|n=>n,λ|17=>1|18=>5|19=>6|n=>n⟩
def Tryz.laysM243_ren:Go.Shelf.Ren:=⟨λ|243=>150|246=>174|283=>202|284=>203|285=>204|286=>205|129=>190|317=>218|318=>219|319=>220|320=>221|337=>226|338=>227|n=>n,λ|3=>3|9=>9|2=>2|4=>4|171=>337|0=>0|53=>24|37=>25|5=>5|173=>339|212=>353|51=>147|20=>20|213=>354|46=>56|232=>367|233=>368|n=>n,λ|17=>1|18=>5|19=>6|n=>n⟩
def Tryz.laysM171_ren:Go.Shelf.Ren:=⟨λ|171=>95|243=>150|246=>174|283=>202|284=>203|285=>204|286=>205|129=>190|317=>218|318=>219|319=>220|320=>221|337=>226|338=>227|n=>n,λ|3=>3|9=>9|2=>2|4=>4|171=>337|0=>0|53=>24|37=>25|5=>5|173=>339|212=>353|51=>147|20=>20|213=>354|46=>56|232=>367|233=>368|n=>n,λ|17=>1|18=>5|19=>6|n=>n⟩
def Tryz.laysM171:Go.Proofs.LaysM.n171 prog Tryz.laysM171_ren:={
 mixed:=aW
 f129:=func190.trans (congrArg some aW)
 f171:=func95.trans (congrArg some aW)
 f243:=func150.trans (congrArg some aW)
 f246:=func174.trans (congrArg some aW)
 f283:=func202.trans (congrArg some aW)
 f284:=func203.trans (congrArg some aW)
 f285:=func204.trans (congrArg some aW)
 f286:=func205.trans (congrArg some aW)
 f317:=func218.trans (congrArg some aW)
 f318:=func219.trans (congrArg some aW)
 f319:=func220.trans (congrArg some aW)
 f320:=func221.trans (congrArg some aW)
 f337:=func226.trans (congrArg some aW)
 f338:=func227.trans (congrArg some aW)
 t0:=underlying0
 a0:=isAgg0
 z0:=sizeOf0
 v0:=zeroValue0
 t2:=underlying2
 a2:=isAgg2
 z2:=sizeOf2
 v2:=zeroValue2
 t3:=underlying3
 a3:=isAgg3
 z3:=sizeOf3
 v3:=zeroValue3
 t4:=underlying4
 a4:=isAgg4
 z4:=sizeOf4
 v4:=zeroValue4
 t5:=underlying5
 a5:=isAgg5
 z5:=sizeOf5
 v5:=zeroValue5
 t9:=underlying9
 a9:=isAgg9
 z9:=sizeOf9
 v9:=zeroValue9
 t20:=underlying20
 a20:=isAgg20
 z20:=sizeOf20
 v20:=zeroValue20
 t37:=underlying25
 a37:=isAgg25
 z37:=sizeOf25
 v37:=zeroValue25
 t46:=underlying56
 a46:=isAgg56
 z46:=sizeOf56
 v46:=zeroValue56
 t51:=underlying147
 a51:=isAgg147
 z51:=sizeOf147
 v51:=zeroValue147
 t53:=underlying24
 a53:=isAgg24
 z53:=sizeOf24
 v53:=zeroValue24
 t171:=underlying337
 a171:=isAgg337
 z171:=sizeOf337
 v171:=zeroValue337
 t173:=underlying339
 a173:=isAgg339
 z173:=sizeOf339
 v173:=zeroValue339
 t212:=underlying353
 a212:=isAgg353
 z212:=sizeOf353
 v212:=zeroValue353
 t213:=underlying354
 a213:=isAgg354
 z213:=sizeOf354
 t232:=underlying367
 a232:=isAgg367
 z232:=sizeOf367
 v232:=zeroValue367
 t233:=underlying368
 a233:=isAgg368
 z233:=sizeOf368
 v233:=zeroValue368
 g17:=aW
 g18:=aW
 g19:=aW
 i0:=aW
 i2:=aW
 i3:=aW
 i4:=aW
 i5:=aW
 i9:=aW
 i20:=aW
 i37:=aW
 i46:=aW
 i51:=aW
 i53:=aW
 i171:=aW
 i173:=aW
 i212:=aW
 i232:=aW
 i233:=aW
 m17:=aW
 m18:=aW
 m19:=aW}
open Go.RowKit Go.Sort Go.Lib in
def Tryz.strconv_Itoa(n:Int)(h0:-9223372036854775808<=n)(h1:n<=9223372036854775807)(w:aB)(htab:Lib.TabIs prog w "internal/strconv.uint64pow10" .u64 Lib.pow10Tab):
 Calls prog 95 #[.int .i64 n] w λe w'=>e=.returned (.string ⟨(Lib.itoa n).toArray⟩)/\∃k os,w'=grow (w.drewN k) os:=Any.strconv_Itoa Tryz.laysM171 n h0 h1 w htab
def Tryz.lays190_ren:Go.Shelf.Ren:=⟨λ|190=>123|125=>165|258=>164|128=>189|129=>190|302=>180|303=>181|304=>182|305=>183|306=>184|307=>185|308=>186|309=>187|310=>188|333=>208|329=>209|330=>210|334=>211|335=>212|336=>213|344=>222|n=>n,λ|31=>73|9=>9|3=>3|46=>56|0=>0|51=>147|53=>24|4=>4|183=>321|182=>320|131=>325|5=>5|218=>343|222=>346|228=>356|229=>357|n=>n,λ|n=>n⟩
def Tryz.lays190:Go.Proofs.Lays.n190 prog Tryz.lays190_ren:={
 mixed:=aW
 f125:=func165.trans (congrArg some<|aW)
 f128:=func189.trans (congrArg some<|aW)
 f129:=func190.trans (congrArg some<|aW)
 f190:=func123.trans (congrArg some<|aW)
 f258:=func164.trans (congrArg some<|aW)
 f302:=func180.trans (congrArg some<|aW)
 f303:=func181.trans (congrArg some<|aW)
 f304:=func182.trans (congrArg some<|aW)
 f305:=func183.trans (congrArg some<|aW)
 f306:=func184.trans (congrArg some<|aW)
 f307:=func185.trans (congrArg some<|aW)
 f308:=func186.trans (congrArg some<|aW)
 f309:=func187.trans (congrArg some<|aW)
 f310:=func188.trans (congrArg some<|aW)
 f329:=func209.trans (congrArg some<|aW)
 f330:=func210.trans (congrArg some<|aW)
 f333:=func208.trans (congrArg some<|aW)
 f334:=func211.trans (congrArg some<|aW)
 f335:=func212.trans (congrArg some<|aW)
 f336:=func213.trans (congrArg some<|aW)
 f344:=func222.trans (congrArg some<|aW)
 t0:=underlying0
 a0:=isAgg0
 z0:=sizeOf0
 v0:=zeroValue0
 t3:=underlying3
 a3:=isAgg3
 z3:=sizeOf3
 v3:=zeroValue3
 t4:=underlying4
 a4:=isAgg4
 z4:=sizeOf4
 v4:=zeroValue4
 t5:=underlying5
 a5:=isAgg5
 z5:=sizeOf5
 v5:=zeroValue5
 t9:=underlying9
 a9:=isAgg9
 z9:=sizeOf9
 v9:=zeroValue9
 t31:=underlying73
 a31:=isAgg73
 z31:=sizeOf73
 v31:=zeroValue73
 t46:=underlying56
 a46:=isAgg56
 z46:=sizeOf56
 v46:=zeroValue56
 t51:=underlying147
 a51:=isAgg147
 z51:=sizeOf147
 v51:=zeroValue147
 t53:=underlying24
 a53:=isAgg24
 z53:=sizeOf24
 v53:=zeroValue24
 t131:=underlying325
 a131:=isAgg325
 z131:=sizeOf325
 v131:=zeroValue325
 t182:=underlying320
 a182:=isAgg320
 z182:=sizeOf320
 v182:=zeroValue320
 t183:=underlying321
 a183:=isAgg321
 z183:=sizeOf321
 v183:=zeroValue321
 t218:=underlying343
 a218:=isAgg343
 z218:=sizeOf343
 v218:=zeroValue343
 t222:=underlying346
 a222:=isAgg346
 z222:=sizeOf346
 v222:=zeroValue346
 t228:=underlying356
 a228:=isAgg356
 z228:=sizeOf356
 v228:=zeroValue356
 t229:=underlying357
 a229:=isAgg357
 z229:=sizeOf357
 v229:=zeroValue357}
open Go.Sort Go.RowKit in
def Tryz.slices_Sort_string(blk off cap:Nat)(ss:fJ)(w:aB)(hH:Holds encStr w blk off ss.toArray)(hblk:blk<w)(hsz:ss.length<4611686018427387904):
 Calls prog 123 #[.slice (some ⟨blk,off,none⟩) ss.length cap] w λe w'=>e=.returned (.tuple #[])/\∃n os,w'=grow (putRow encStr (Sort.ahead w n) blk off (ss.mergeSort λx y=>decide (x<=y)).toArray) os:=Any.slices_Sort_string Tryz.lays190 blk off cap ss w hH hblk hsz
def Tryz.lays105_ren:Go.Shelf.Ren:=⟨λ|105=>96|212=>151|99=>152|165=>153|166=>154|170=>155|169=>156|263=>175|264=>176|206=>177|240=>178|241=>179|276=>206|277=>207|n=>n,λ|9=>9|3=>3|4=>4|20=>20|0=>0|46=>56|109=>267|5=>5|72=>271|76=>165|51=>147|146=>314|53=>24|148=>316|70=>269|37=>25|75=>34|127=>318|164=>209|80=>273|n=>n,λ|n=>n⟩
def Tryz.lays105:Go.Proofs.Lays.n105 prog Tryz.lays105_ren:={
 mixed:=aW
 f99:=func152.trans (congrArg some<|aW)
 f105:=func96.trans (congrArg some<|aW)
 f165:=func153.trans (congrArg some<|aW)
 f166:=func154.trans (congrArg some<|aW)
 f169:=func156.trans (congrArg some<|aW)
 f170:=func155.trans (congrArg some<|aW)
 f206:=func177.trans (congrArg some<|aW)
 f212:=func151.trans (congrArg some<|aW)
 f240:=func178.trans (congrArg some<|aW)
 f241:=func179.trans (congrArg some<|aW)
 f263:=func175.trans (congrArg some<|aW)
 f264:=func176.trans (congrArg some<|aW)
 f276:=func206.trans (congrArg some<|aW)
 f277:=func207.trans (congrArg some<|aW)
 t0:=underlying0
 a0:=isAgg0
 z0:=sizeOf0
 v0:=zeroValue0
 t3:=underlying3
 a3:=isAgg3
 z3:=sizeOf3
 v3:=zeroValue3
 t4:=underlying4
 a4:=isAgg4
 z4:=sizeOf4
 v4:=zeroValue4
 t5:=underlying5
 a5:=isAgg5
 z5:=sizeOf5
 v5:=zeroValue5
 t9:=underlying9
 a9:=isAgg9
 z9:=sizeOf9
 v9:=zeroValue9
 t20:=underlying20
 a20:=isAgg20
 z20:=sizeOf20
 v20:=zeroValue20
 t37:=underlying25
 a37:=isAgg25
 z37:=sizeOf25
 v37:=zeroValue25
 t46:=underlying56
 a46:=isAgg56
 z46:=sizeOf56
 v46:=zeroValue56
 t51:=underlying147
 a51:=isAgg147
 z51:=sizeOf147
 v51:=zeroValue147
 t53:=underlying24
 a53:=isAgg24
 z53:=sizeOf24
 v53:=zeroValue24
 t70:=underlying269
 a70:=isAgg269
 z70:=sizeOf269
 v70:=zeroValue269
 t72:=underlying271
 a72:=isAgg271
 z72:=sizeOf271
 v72:=zeroValue271
 t75:=underlying34
 a75:=isAgg34
 z75:=sizeOf34
 v75:=zeroValue34
 t76:=underlying165
 a76:=isAgg165
 z76:=sizeOf165
 v76:=zeroValue165
 t109:=underlying267
 a109:=isAgg267
 z109:=sizeOf267
 v109:=zeroValue267
 t127:=underlying318
 a127:=isAgg318
 z127:=sizeOf318
 v127:=zeroValue318
 t146:=underlying314
 a146:=isAgg314
 z146:=sizeOf314
 v146:=zeroValue314
 t148:=underlying316
 a148:=isAgg316
 z148:=sizeOf316
 v148:=zeroValue316
 t164:=underlying209
 a164:=isAgg209
 z164:=sizeOf209
 v164:=zeroValue209}
def Tryz.Builder_Extra_105:Builder.Extra prog Tryz.lays105_ren:={
 sizeBuilder:=aW
 liesBuilder:=aW
 t5:=underlying5
 a5:=isAgg5
 z5:=sizeOf5
 v5:=zeroValue5
 infoByte:=aW
 cellsByte:=aW
 sizeByte:=aW
 neB5:=dA}
open Go.RowKit Go.Lib in
def Tryz.strings_Repeat(s:ByteArray)(c:Nat)(w:aB)(hc:c<=9223372036854775807)(hlen:s.size*c<=140737488355328):
 Calls prog 96 #[.string s,.int .i64 c] w λe w'=>e=.returned (.string ⟨(Lib.repeatL s.data.toList c).toArray⟩)/\Below w w w':=Any.strings_Repeat Tryz.lays105 Tryz.Builder_Extra_105 s c w hc hlen
open Go.RowKit Go.Sort in
def Tryz.slices_Sort_string_none(p:Option Addr)(cap:Nat)(w:aB):
 Calls prog 123 #[.slice p 0 cap] w λe w'=>e=.returned (.tuple #[])/\w'=w:=Any.slices_Sort_string_none Tryz.lays190 p cap w
end Go.Proofs
namespace Go.Proofs.YtgpbhjjajpbeeaaGreatDoor
open Go.RowKit Go.Lib Go.Maps Dk Pl
variable{α β:Type}{B b i k n r u:Nat}{w:aB}{e:bT}{v:aX}{l:Fl}{F:tyP}
def uH(w:aB)(B:Nat)(v:aX)(l:List Nm):Prop:=w.ownsRow B 9 1 v l.length (l.map bJ)
def c8i(d:D)(w:aB)(e:Ending)(w':aB):Prop:=∃v,e=.returned v/\uH w' w v d.list/\Ext w w'
def vj:(prog.info? 9).map (λi=>(i.zero,i.size,i.bytes))=some (some (.string ⟨#[]⟩),1,16):=rfl
theorem PQ{P:Program}{k:bT}{kf:α->Value}{vf:β->Value}{l b:List (α×β)}{size:Nat}{xs:jl}
 (h:w.ownsRow B e size v n xs)(f:Y9 P k kf vf w i r l b):v.ownBlock≠some i:=by
 intro a;let⟨q,c,seen,p,t,j,_⟩:=f;obtain⟨rfl,_⟩|⟨g,m,o,rfl,s,d,_⟩:=h.2
 cases a
 simp[Value.ownBlock] at a;grind
theorem vh(F:tyP)(a:Nat)(d:D)(w:aB)(h:o7 w F a d)(hnl:d.now.length<=32768):Calls prog 66 #[l9 a] w (c8i d w):=by
 obtain⟨V,m2,mv,gs,dv,W⟩:=h;obtain⟨i0,hi,f,z,v⟩:=info_parts vj;have c0:=W.box.cell 0;obtain⟨w2,o,u,Cc,hsz2⟩:=W.now.range underlying171;have HR:=ah W;have JE:=ah u;have t:=ah Cc;clear W u Cc;unfold l9;go_enter func66,ntmps66
 go_wp2;go_loopw [3] (λi wr=>∃c,Y9 prog 9 bJ l9 wr w V d.now c/\wr.ownsRow w 9 1 i c.length (c.map λp=>bJ p.1)/\Ext w wr) (λ_ wr=>d.now.length - Zw wr w)
 case atStart=>exact⟨[],JE.out,⟨rfl,Or.inl ⟨rfl,rfl⟩⟩,t.out⟩
 case round=>
  obtain⟨c,u,j,Q⟩:=hrel;have hvl:=u.length;have U:=u.seen;obtain⟨R,H,rfl⟩:=ownsRow_form j;rcases u.next 0 with⟨p,x,K,hpm,T,G,O,lB⟩|⟨K,m⟩
  ·have l:=jH.row j x λb I=>G.block b (λe=>(PQ j u) (e▸I));have Z:Ext w x:=Q.off G (ak _);have HH:=ah T;have DJ:=ah U;have XQ:=ah T.seen;have M:=ah Z;have zJ:=ah (PQ l T);have y:=ah T.lt;have Ic:=ah (U2 l ((HR.out.ext Z).now));clear T U u G Z j Q;unfold bJ l9 at K O;go_wp2_with (at_builtin;go_must (refine A8 rfl _ _ 73 rfl w 9 i0 (.string ⟨#[]⟩) 1 16 underlying73 hi f z v rfl aj (.slice R c.length H) c.length _ rfl (l.alloc (.cells #[bJ p.1] 9)) (.slice (some ⟨x,0,none⟩) 1 1) 1 [bJ p.1] rfl ⟨_,_,rfl,aj,⟨aj,λh=>by cases h⟩,λ_=>⟨_,rfl,World.news_of_block (cs:=#[bJ p.1]) (t:=9) (fr:=(0,0)) (heap_alloc_new x _)⟩⟩ rfl (by simp[Value.oneCell',bJ]) lJ aj (by have:=M.out.size;simp;omega) ?_);intro b6 c6 w6 s q kZ;have pX:=ah s;have N:=ah q;clear s q kZ)
   go_roundw
   case rel=>
    refine⟨c++[p],HH.out.block
     ((N.out.block _ (by simp;have:=y.out.1;omega) (λe=>zJ.out e.symm)).trans (heap_alloc_old x _ y.out.1))
     ((N.out.block _ (by simp;have:=y.out.2.1;omega) (λe=>Ic.out e.symm)).trans (heap_alloc_old x _ y.out.2.1)),?_,?_⟩
    ·have:=pX.out;simpa using this
    ·exact Below.grown (M.out.new (.cells #[bJ p.1] 9)) N.out (by have:=M.out.size;simp;omega) (λk X=>(l.lt k X).1)
   case measure=>
    rw[DJ.out,(HH.out.block
     ((N.out.block _ (by simp;have:=y.out.1;omega) (λe=>zJ.out e.symm)).trans (heap_alloc_old x _ y.out.1))
     ((N.out.block _ (by simp;have:=y.out.2.1;omega) (λe=>Ic.out e.symm)).trans (heap_alloc_old x _ y.out.2.1))).seen];simp;omega
  have E:(c.map λp=>bJ p.1)=(c.map Prod.fst).map bJ:=aZ
  have C:(c.map Prod.fst).mergeSort qG=d.list:=AH (m.map _);have A:d.list.length=c.length:=by rw[<-C];simp
  rw[E] at j;have ho:=j;rcases j.2 with⟨hnil,h0⟩|⟨g,cap,cur,L,B,I,h1,h2,h3,h4⟩
  ·have Y:=ah (Tryz.slices_Sort_string_none R H wr);rw[h0] at ho;clear o u m j U E;go_wp2_with fail
   refine Y.out.mono ?_;rintro e w4 ⟨rfl,rfl⟩;go_wp2;go_ret;refine⟨.slice R 0 H,rfl,?_,Q⟩;have P:c=[]:=dL h0;subst P;rw[(dL (by omega):d.list=[])];exact ho
  ·injection L with e1 e2 e3;subst e1;subst e3;have r:(c.map Prod.fst).length=c.length:=aZ
   have J:=Tryz.slices_Sort_string g 0 H (c.map Prod.fst) wr (holds_of_block I (by rw[r,<-tq c.length];exact h4)) (bn.1 I).1 (by rw[r];omega);rw[r] at J;have Y:=ah J;have HBK:=ah I;have H3:=ah h3;clear J o u m j U E I h4 h3;go_wp2_with fail
   refine Y.out.mono ?_;rintro e w4 ⟨rfl,n,os,S⟩;have eZ:=ah S;clear S;go_wp2;go_ret;refine⟨.slice _ c.length H,rfl,?_,?_⟩
   ·have:=ownsRow_sorted (n:=n) (os:=os) (ss:=c.map Prod.fst) (by rw[A,r]) B HBK.out (by rw[r];exact h1) h2 H3.out;rw[<-C] at this;rw[eZ.out];unfold uH;rw[A,<-C];rw[r] at this;exact this
   ·rw[eZ.out];exact Below.grown Q (grownBy_sorted _) Q.size (λk X=>iL)
def Eu(p:Nm×Value):List Value:=[bJ p.1,p.2]
def P6(w:aB)(v:aX)(l:Fl):Prop:=
 ∃(a:Option Addr)(c:Nat)(b:List (Nm×Value)),v=.slice a l.length c/\l.length<=c/\c<=9223372036854775807/\b.length=l.length/\
  (∀(i:Nat)p,b[i]?=some p->∃g,a=some ⟨g,0,none⟩/\w.cell? ⟨g,i*2,none⟩=some (bJ p.1)/\w.cell? ⟨g,i*2+1,none⟩=some p.2)/\
  ∀(i:Nat)p q,b[i]?=some p->l[i]?=some q->p.1=q.1/\Bytes w p.2 q.2
theorem pf(rows:List (Nm×Value))(i:Nat)(p:Nm×Value)(h:rows[i]?=some p)(j:Nat)(b:j<2):(rows.flatMap Eu)[2*i+j]?=(Eu p)[j]?:=by
 induction rows generalizing i with
 | nil=>simp at h
 | cons y l a=>
  rw[eY]
  cases i with
  | zero=>
   simp at h;subst h
   rw[bP (by simp[Eu];omega)];simp
  | succ i=>simp at h;rw[cZ (by simp[Eu];omega),show 2*(i+1)+j - (Eu y).length=2*i+j by simp[Eu];omega];grind
def VZ(rows:List (Nm×Value))(x:aX):Prop:=(∃s,x=.string s)\/x=.slice none 0 0\/∃p∈rows,x=p.2
def Aj(w:aB)(B:Nat)(v:aX)(rows:List (Nm×Value))(l:Fl):Prop:=
 w.ownsRow B 77 2 v rows.length (rows.flatMap Eu)/\rows.length=l.length/\(∀(i:Nat)p q,rows[i]?=some p->l[i]?=some q->p.1=q.1/\OwnB w B p.2 q.2)/\yZ (VZ rows) w v/\∀p∈rows,wS w p.2
theorem Aj.files{rows:List (Nm×Value)}(h:Aj w B v rows l):P6 w v l:=by
 obtain⟨n,c,d,-⟩:=h;have u:maxLen<=9223372036854775807:=qc
 obtain⟨rfl,m⟩|⟨g,f,o,rfl,_,j,r,t,s,k⟩:=n.2
 refine⟨none,0,rows,by rw[<-c,m],aj,aj,c,λi p a=>?_,λi p q a b=>⟨(d i p q a b).1,(d i p q a b).2.bytes⟩⟩;have:=(aJ.1 a).1;omega
 refine⟨some _,f,rows,by rw[c],aj,aj,c,λi p a=>⟨g,rfl,?_,?_⟩,λi p q a b=>⟨(d i p q a b).1,(d i p q a b).2.bytes⟩⟩
 have e:=pf rows i p a 0 aj;rw[<-k,fB] at e;split at e
 simp[World.cell?,j];rw[show i*2=2*i+0 by omega];simpa [Eu] using e
 trivial
 have e:=pf rows i p a 1 aj;rw[<-k,fB] at e;split at e
 simp[World.cell?,j];rw[show i*2+1=2*i+1 by omega];simpa [Eu] using e
 trivial
theorem Aj.keep{w':aB}{rows:List (Nm×Value)}(h:Aj w B v rows l)(f:∀b,B<=b->b<w.heap.size->w'.heap[b]?=w.heap[b]?):Aj w' B v rows l:=by
 let⟨e,o,g,n,r⟩:=h;refine⟨jH.row e w' λb a=>f b (e.lt b a).1 (e.lt b a).2,o,λi p q d k=>⟨(g i p q d k).1,?_⟩,n.keep λb a=>f b (e.lt b a).1 (e.lt b a).2,λp d=>?_⟩
 have c:=(g i p q d k).2;exact jH.row c w' λb a=>f b (World.ownsRow.lt c b a).1 (World.ownsRow.lt c b a).2
 let⟨i,m⟩:=gX d;have c:=(g i p _ m<|au fU).2;exact(r p d).keep λb a=>f b (World.ownsRow.lt c b a).1 (World.ownsRow.lt c b a).2
def uH.keep{w':aB}{l:List Nm}(h:uH w B v l)(c:∀b,B<=b->b<w.heap.size->w'.heap[b]?=w.heap[b]?):uH w' B v l:=
 jH.row h _ λb a=>c b (World.ownsRow.lt h b a).1 (World.ownsRow.lt h b a).2
theorem Aj.held{rows:List (Nm×Value)}(h:Aj w B v rows l)(d:∀b,F b->b<B):Held w F (λW=>P6 W v l):=
 ⟨λb=>B<=b/\b<w.heap.size,λb c=>⟨c.2,λa=>by have:=d b a;omega⟩,λi f=>(h.keep λb e g=>f b ⟨e,g⟩).files⟩
theorem Aj.nil(w:aB)(B:Nat):Aj w B (.slice none 0 0) [] []:=⟨⟨rfl,Or.inl ⟨rfl,rfl⟩⟩,rfl,aZ,(λg c e a h=>by cases h),aZ⟩
def iq.grown{f w2:aB}{c:Option Nat}(h:iq F F w f)(a:f.grownBy w2 c)(g:∀k,c=some k->w.heap.size<=k):iq F F w w2:=
 ⟨a.os.trans h.os,a.tape.trans h.tape,a.output.trans h.output,ay h.size a.size,λb d i=>(a.block b (aF d h.size) (λe=>fU)).trans<|h.block b d i,λb d=>.inl d⟩
theorem uH.cell{l:List Nm}(h:uH w B v l){n:Nm}(d:l[k]?=some n):∃b c,v=.slice (some ⟨b,0,none⟩) l.length c/\w.cell? ⟨b,k,none⟩=some (bJ n):=by
 let⟨t,m⟩:=h;have f:=(aJ.1 d).1;obtain⟨rfl,q⟩|⟨g,a,o,rfl,_,j,s,r,p,i⟩:=m
 omega
 have e:(l.map bJ)[k]?=some (bJ n):=fU
 rw[<-i,fB] at e;split at e
 simp[World.cell?,j];simpa using e
 cases e
def b96:(prog.info? 77).map (λi=>(i.zero,i.size,i.bytes))=some (some (.agg #[.string ⟨#[]⟩,.slice none 0 0]),2,40):=rfl
theorem Ff(d:D)(n:Nm)(h:n∈d.list):∃b,d.file n=some b:=by
 cases e:d.file n with
 | none=>
  unfold D.file at e;rw[gq,G8,<-zu] at e
  trivial
 | some=>simp
theorem pd{d:D}(f:d.Wf){c:Nat}(a:∀x∈d.ids,(d.node x).data.length<=c){n:Nm}{b:dV}(h:d.file n=some b):b.length<=c:=by obtain⟨x,e,rfl⟩:=bC.1 h;exact a x (f.now _<|Y4 e)
def YZ(F:tyP)(a:Nat)(d:D)(w:aB)(e:Ending)(w':aB):Prop:=
 ∃v b,e=.returned v/\Aj w' w v b d.files/\o7 w' F a d/\iq F F w w'
theorem Xn(F:tyP)(a:Nat)(d:D)(w:aB)(h:o7 w F a d)(hc:d.Calm)(hnl:d.now.length<=32768)(hds:∀x∈d.ids,(d.node x).data.length<=35184372088832)(hnm:∀p∈d.now,p.1.length<=maxLen):
 Calls prog 16 #[l9 a] w (YZ F a d w):=by
 have hlist:=vh F a d w h hnl;have hlow:=h.low;have hll:d.list.length<=32768:=by unfold D.list;simpa using hnl
 have hnm':∀n∈d.list,n.length<=maxLen:=by intro n hn;rw[zu] at hn;obtain⟨p,hp,rfl⟩:=aQ.1 hn;exact hnm p hp
 obtain⟨i0,hi,hz0,hz1,hz2⟩:=info_parts b96;have HL:=ah hlist;have HD:=ah h;have zK:=ah hlow;have DT:=ah hds;have nR:=ah hnm';have HC:=ah hc;have HW:=ah h.wf;clear hlist h hlow hds hnm hnm' hc;unfold l9 at HL;show Calls prog 16 #[.pointer (some a)] w (YZ F a d w);go_enter func16,ntmps16
 go_wp2_with fail
 refine HL.out.mono ?_;rintro e w1 ⟨nv,rfl,hN,hE⟩;have HN:=ah hN;have HE:=ah hE;clear hN hE HL;go_wp2;go_loopw [3,5] (λu i wr=>∃(k:Nat)(rows:List (Nm×Value)),k<=d.list.length/\i=.int .i64 k/\Aj wr w u rows (d.files.take k)/\uH wr w nv d.list/\o7 wr F a d/\iq F F w wr) (λ_ i _=>d.list.length - (intOf i).toNat)
 case atStart=>exact⟨0,[],dD _,rfl,Aj.nil _ _,HN.out,HD.out.ext HE.out,iV HE.out⟩
 case round=>
  obtain⟨k,rows,hk,rfl,hR,IK,hD,hC⟩:=hrel;obtain⟨na,nc,YE⟩:=ownsRow_form IK;obtain⟨ua,uc,hu⟩:=ownsRow_form hR.1;have hrl:rows.length<=32768:=by have:=hR.2.1;rw[dH] at this;omega
  by_cases hlt:k<d.list.length
  ·obtain⟨nm,hm⟩:∃nm,d.list[k]?=some nm:=⟨_,au hlt⟩;have hmem:nm∈d.list:=aH hm;obtain⟨fb,hfb⟩:=Ff d nm hmem;have hfl:=pd HW.out DT.out hfb;obtain⟨nb,S4,BI,hcell⟩:=IK.cell hm;have hsize:=size_any F a d nm wr hD (nR.out nm hmem);rw[HC.out.size,hfb] at hsize;subst BI;have hlow2:∀b,F b->b<w.heap.size:=zK.out;have hkeep:∀(x y:aB),iq F F x y->∀b,w.heap.size<=b->b<x.heap.size->y.heap[b]?=x.heap[b]?:=λx y hxy b hb hbx=>hxy.block b hbx (λhF=>by have:=hlow2 b hF;omega);have HS:=ah hsize;have HR:=ah hR;have HNR:=ah IK;have HCC:=ah hC;have M7:=ah hfb;have HK:=ah hkeep;have HM:=ah hm;have zI:=ah (nR.out nm hmem);clear hsize hR IK hD hC hfb hkeep hm YE hlow2;unfold bJ at hcell;unfold l9 bJ at HS;subst hu;go_wp2_with fail
   refine HS.out.mono ?_;rintro e w2 ⟨v2,rfl,_,hD2,hC2⟩;have hR2:=HR.out.keep (HK.out _ _ hC2);have UN:=HNR.out.keep (HK.out _ _ hC2);have hrd:=GE F a d nm 0 (fb.length:Int) w2 hD2 zI.out aj aj (λx hx=>ay (DT.out x hx) aj);rw[HC.out.jF,M7.out] at hrd;simp only[uC] at hrd;obtain⟨nb2,nc2,mq,hcell2⟩:=UN.cell HM.out;injection mq with e1 e2 e3;injection e1 with e1;injection e1 with e1;subst e1;subst e3;have QM:=ah hrd;have HC2:=ah (HCC.out.trans hC2);have HR2:=ah hR2;have XY:=ah UN;clear hrd hC2 hR2 UN hcell e2 hD2 HR HNR HCC HS;unfold bJ at hcell2;unfold l9 bJ at QM;go_wp2_with fail
   refine QM.out.mono ?_;rintro e w3 ⟨bv,v3,rfl,hB3,_,hD3,nD,hF3⟩;have YJ:=HR2.out.keep (HK.out _ _ nD);have hN3:=XY.out.keep (HK.out _ _ nD);have a7:=HC2.out.trans nD;have Vk:OwnB w3 w bv fb:=H6 hB3 HC2.out.size;obtain⟨nb3,nc3,mo,KD⟩:=hN3.cell HM.out;injection mo with e1 e2 e3;injection e1 with e1;injection e1 with e1;subst e1;subst e3;have hrow:=YJ.1;obtain⟨ba,bc,hbv⟩:=ownsRow_form hB3;subst hbv;have fz:∀x∈(Value.agg #[.string ⟨#[]⟩,.slice none 0 0]).cells,VZ (rows++[(nm,Value.slice ba fb.length bc)]) x:=λx hx=>by
    rcases(by simpa [Value.cells] using hx:x=.string ⟨#[]⟩\/x=.slice none 0 0) with rfl|rfl
    ·exact .inl ⟨_,rfl⟩
    ·exact .inr (.inl rfl)
   have fn:∀x∈[bJ nm,Value.slice ba fb.length bc],VZ (rows++[(nm,Value.slice ba fb.length bc)]) x:=λx hx=>by
    rcases(by simpa using hx:x=bJ nm\/x=Value.slice ba fb.length bc) with rfl|rfl
    ·exact .inl ⟨_,rfl⟩
    ·exact .inr (.inr ⟨(nm,Value.slice ba fb.length bc),aZ,rfl⟩)
   have fo:yZ (VZ (rows++[(nm,Value.slice ba fb.length bc)])) w3 (.slice ua rows.length uc):=λg c e fr hg hc x hx=>(YJ.2.2.2.1 g c e fr hg hc x hx).imp id λh=>h.imp id λ⟨p,hp,e⟩=>⟨p,tu _ hp,e⟩;have HF3:=ah hF3;clear hF3;have HR3:=ah YJ;have zJ:=ah hN3;have tH:=ah a7;have HB3:=ah Vk;have HD3:=ah hD3;clear YJ hN3 a7 nD hB3 Vk hD3 hcell2 e2 HR2 XY HC2 QM;unfold bJ at KD;have lH:Ext w3 (w3.alloc (.cells #[bJ nm,Value.slice ba fb.length bc] 77)):=(dh w3).new _;go_wp2_with (at_builtin;go_must (refine dz (F:=VZ (rows++[(nm,Value.slice ba fb.length bc)])) rfl _ _ 40 rfl w 77 i0 (.agg #[.string ⟨#[]⟩,.slice none 0 0]) 2 40 underlying40 hi hz0 hz1 hz2 rfl aj (.slice ua rows.length uc) rows.length _ rfl (hrow.alloc (.cells #[bJ nm,Value.slice ba fb.length bc] 77)) (.slice (some ⟨w3,0,none⟩) 1 1) 1 [bJ nm,Value.slice ba fb.length bc] rfl ⟨_,_,rfl,aj,⟨aj,λh=>by cases h⟩,λ_=>⟨_,rfl,World.news_of_block (cs:=#[bJ nm,Value.slice ba fb.length bc]) (t:=77) (fr:=(0,0)) (heap_alloc_new w3 _)⟩⟩ rfl (by simp[Value.oneCell',bJ]) lJ aj (by have:=tH.out.size;simp;omega) fz fn (fo.keep λb hb=>heap_alloc_old _ _ (PZ hrow hb)) ?_);intro b6 c6 w6 hown6 hgrow6 kZ Gl;have M6:=ah Gl;clear Gl;have pX:=ah hown6;have yA:=ah hgrow6;clear hown6 hgrow6 kZ)
   go_roundw
   case rel=>
    have hkb:∀b,w.heap.size<=b->b<w3.heap.size->(Value.slice ua rows.length uc).ownBlock≠some b->w6.heap[b]?=w3.heap[b]?:=λb hb hb3 hne=>(yA.out.block b iw (λe=>hne e.symm)).trans (heap_alloc_old w3 _ hb3);have htk:d.files.take (k+1)=d.files.take k++[(nm,fb)]:=by
     have:d.files[k]?=some (nm,fb):=by unfold D.files;rw[dF,HM.out];simp[M7.out]
     rw[cO,this];rfl
    have hlen:=HR3.out.2.1;refine⟨k+1,rows++[(nm,Value.slice ba fb.length bc)],aj,iE,⟨?_,?_,?_,?_,?_⟩,?_,?_,?_⟩
    ·have:=pX.out;rw[aC,dZ];simpa [Eu] using this
    ·rw[htk,aC,aC,hlen];rfl
    ·intro i p q hp hq;rw[htk] at hq;by_cases hi2:i<rows.length
     ·rw[bP hi2] at hp;rw[bP aj] at hq;obtain⟨h1,h2⟩:=HR3.out.2.2.1 i p q hp hq;refine⟨h1,jH.row h2 w6 λb hb=>hkb b (World.ownsRow.lt h2 b hb).1 (World.ownsRow.lt h2 b hb).2 (Di h2 HR3.out.1 dA hb)⟩
     ·rw[cZ aj] at hp;rw[cZ aj,<-hlen] at hq;have e0:i - rows.length=0:=by
       rcases gK (i - rows.length) with e|e
       ·exact e
       ·rw[ji iw] at hp;cases hp
      rw[e0] at hp hq;simp at hp hq;subst hp;subst hq;refine⟨rfl,jH.row HB3.out w6 λb hb=>hkb b (World.ownsRow.lt HB3.out b hb).1 (World.ownsRow.lt HB3.out b hb).2 (Di HB3.out HR3.out.1 dA hb)⟩
    ·exact M6.out
    ·intro p hp;rcases aP.1 hp with hp|hp
     ·obtain⟨i,hi⟩:=gX hp;have hil:i<(d.files.take k).length:=by have:=(aJ.1 hi).1;omega
      have ho:=(HR3.out.2.2.1 i p _ hi (au hil)).2;exact(HR3.out.2.2.2.2 p hp).keep λb hb=>hkb b (World.ownsRow.lt ho b hb).1 (World.ownsRow.lt ho b hb).2 (Di ho HR3.out.1 dA hb)
     ·obtain rfl:=dB.1 hp;exact HF3.out.keep λb hb=>hkb b (World.ownsRow.lt HB3.out b hb).1 (World.ownsRow.lt HB3.out b hb).2 (Di HB3.out HR3.out.1 dA hb)
    ·exact jH.row zJ.out w6 λb hb=>hkb b (World.ownsRow.lt zJ.out b hb).1 (World.ownsRow.lt zJ.out b hb).2 (Di zJ.out HR3.out.1 dA hb)
    ·exact HD3.out.frame (λb hb=>(yA.out.block b (by have:=zK.out b hb;have:=tH.out.size;simp;omega) (λe=>by have:=(HR3.out.1.lt b e.symm).1;have:=zK.out b hb;omega)).trans (heap_alloc_old w3 _ (by have:=zK.out b hb;have:=tH.out.size;omega))) (by have:=yA.out.size;simp at this;omega)
    ·exact(tH.out.trans (iV lH)).grown yA.out λb hb=>(HR3.out.1.lt b hb).1
   case measure=>simp[intOf];omega
  ·obtain rfl:k=d.list.length:=aj
   subst hu;have hfin:YZ F a d w (.returned (.slice ua rows.length uc)) wr:=by
    refine⟨.slice ua rows.length uc,rows,rfl,?_,hD,hC⟩;have:d.files.take d.list.length=d.files:=by rw[bU];unfold D.files;simp
    rw[<-this];exact hR
   have qN:=ah hfin;subst YE;clear hfin hR hD hC IK;go_wp2;go_ret;exact qN.out
def VY(l:Fl)(name:Nm)(w:aB)(e:Ending)(w':aB):Prop:=
 w'=w/\∃v,e=.returned (.tuple #[v,.bool (A7 l name).isSome])/\Bytes w v ((A7 l name).getD [])
theorem a9r{q:Nm×List UInt8}{name:Nm}(h:A7 (l.take k) name=none)(b:l[k]?=some q)(a:q.1≠name):A7 (l.take (k+1)) name=none:=by rw[cO,b];show A7 (l.take k++[q]) _=none;rw[FG,h,Y5,if_neg a];rfl
theorem b97{q:Nm×List UInt8}{name:Nm}(h:A7 (l.take k) name=none)(a:l[k]?=some q)(c:q.1=name):A7 l name=some q.2:=by
 have e:l=l.take k++q::l.drop (k+1):=by rw[<-(aJ.1 a).2,<-gy _,iy]
 rw[e,FG,h,Y5,if_pos c];rfl
theorem bE(v:aX)(l:Fl)(name:Nm)(w:aB)(h:P6 w v l):
 Calls prog 31 #[v,bJ name] w (VY l name w):=by
 obtain⟨a,G,o,rfl,N,M,E,j,m⟩:=h;have H:=ah j;have K:=ah m;clear j m;unfold bJ;go_enter func31,ntmps31
 go_wp2;go_loopw [6] (λi wr=>∃k:Nat,k<=l.length/\i=.int .i64 k/\A7 (l.take k) name=none/\wr=w) (λi _=>l.length - (intOf i).toNat)
 case atStart=>exact⟨0,dD _,rfl,by simp[A7],rfl⟩
 case round=>
  obtain⟨k,O,rfl,d,rfl⟩:=hrel;by_cases u:k<l.length
  ·obtain⟨q,t⟩:∃q,l[k]?=some q:=⟨_,au u⟩;obtain⟨p,r⟩:∃p,o[k]?=some p:=⟨_,au aj⟩;obtain⟨g,rfl,I,P⟩:=H.out k p r;obtain⟨he,z⟩:=K.out k p q r t;have x:=ah d;have HQ:=ah t;have J:=ah z;have y:=ah he;clear d t z r he;unfold bJ at I;by_cases f:p.1=name
   ·have F:(p.1==name)=true:=fO.2 f;have c:VY l name wr (.returned (.tuple #[p.2,.bool true])) wr:=have e:=b97 x.out HQ.out (y.out.symm.trans f);⟨rfl,p.2,by rw[e];rfl,by rw[e];exact J.out⟩
    have s:=ah c;clear c f;go_wp2;go_ret2
    exact s.out
   have F:(p.1==name)=false:=bG.2 f;have L:=ah f;clear f;go_wp2;go_roundw
   case rel=>exact⟨k+1,aj,iE,a9r x.out HQ.out (λe=>L.out (y.out.trans e)),trivial⟩
   case measure=>simp[intOf];omega
  obtain rfl:k=l.length:=aj
  have c:VY l name wr (.returned (.tuple #[.slice none 0 0,.bool false])) wr:=by rw[bK] at d;exact⟨rfl,_,by rw[d];rfl,by rw[d];exact⟨none,0,rfl,ak _,⟨aj,λ_=>rfl⟩,λh=>absurd rfl h⟩⟩
  have s:=ah c;clear c d;go_wp2;go_ret2
  exact s.out
theorem sL(v:aX)(l:fC)(x:Int)(w:aB)(h:Ints w v l):
 Calls prog 51 #[v,.int .i64 x] w λe w'=>e=.returned (.bool (decide (x∈l)))/\w'=w:=by
 obtain⟨a,B,rfl,E,A,c⟩:=h;have m:∀k,(o:k<l.length)->∃b,a=some b/\w.cell? (b.add k)=some (.int .i64 l[k]):=by intro k o;obtain⟨b,rfl,y⟩:=c (λe=>by simp at e;subst e;simp at o);exact⟨b,rfl,y k _ (by simp[o])⟩
 clear c;go_enter func51,ntmps51
 go_wp2;go_loopw [5] (λi z=>∃k:Nat,k<=l.length/\i=.int .i64 k/\x∉l.take k/\z=w) (λi _=>l.length - (intOf i).toNat)
 case atStart=>exact⟨0,dD _,rfl,aZ,rfl⟩
 case round=>
  obtain⟨k,o,rfl,d,rfl⟩:=hrel;by_cases g:k<l.length
  obtain⟨b,rfl,D⟩:=m k g;by_cases j:l[k]=x
  have p:=fO.2 j;have q:=ah (aN (j▸bQ g));clear j;go_wp2;go_ret;exact⟨by rw[q.out];rfl,rfl⟩
  have p:=bG.2 j;go_wp2;go_roundw
  case rel=>
   refine⟨k+1,aj,iE,?_,trivial⟩;rw[take_snoc l k g,aP];rintro(h|h)
   exact d h
   simp_all
  case measure=>simp[intOf];omega
  obtain rfl:k=l.length:=aj
  rw[bK] at d;go_wp2;go_ret;simp_all
def sfx(id:Nat):Nat->Nm
 | 0=>[]
 | k+1=>digit (id/10^k)::sfx id k
theorem Pi(a:Nm)(id:Nat):y7 a id=a++sfx id 6:=by simp[y7,sfx]
theorem oi(id:Nat):∀k,(sfx id k).length=k:=by
 intro k
 induction k with
 | zero=>rfl
 | succ k a=>simp[sfx,a]
def ZI(a b:Nm):(⟨a.toArray⟩:ByteArray)++(⟨b.toArray⟩:ByteArray)=⟨(a++b).toArray⟩:=rfl
theorem c0W(n:Nat):(digit n).toNat=48+n%10:=by unfold digit;rw[UInt8.toNat_ofNat'];omega
theorem b7v(n:Nat):Value.int .u8 (((48+n%10:Nat)):Int)=eG (digit n):=by unfold eG;rw[c0W]
theorem Qy(b:Nm)(id:Nat)(w:aB)(B:b.length<=1000)(hid:id<=999999):
 Calls prog 20 #[bJ b,.int .i64 id] w λe w'=>e=.returned (bJ (y7 b id))/\Ext w w':=by
 unfold bJ;go_enter func20,ntmps20
 go_wp2;go_loopw [1,5,6] (λx s i wr=>∃k:Nat,k<=6/\i=.int .i64 k/\x=.int .i64 ((id/10^k:Nat))/\s=.string ⟨(sfx id k).toArray⟩/\Ext w wr) (λ_ _ i _=>6 - (intOf i).toNat)
 case atStart=>exact⟨0,aj,rfl,aZ,rfl,dh w⟩
 case round=>
  obtain⟨k,t,rfl,rfl,rfl,l⟩:=hrel;by_cases r:k<6
  ·obtain⟨y,f⟩:∃y,id/10^k=y:=⟨_,rfl⟩;have u:y<=999999:=by rw[<-f];exact ay (Nat.div_le_self _ _) hid
   have d:id/10^(k+1)=y/10:=by rw[<-f,Nat.pow_succ,Nat.div_div_eq_div_mul]
   have z:=by have:=Int.ofNat_tmod y 10;simpa using this.symm
   have D:=by have:=Int.ofNat_tdiv y 10;simpa using this.symm
   rw[f];have v:=ah f;have HY2:=ah d;have n:=ah l;clear f d l;have a:Bytes (wr.alloc (.cells #[.int .u8 (48+(y:Int)%10)] 5)) (.slice (some ⟨wr,0,none⟩) 1 1) [digit y]:=by
    have e:Value.int .u8 (48+(y:Int)%10)=eG (digit y):=by rw[<-b7v];simp
    rw[e];exact⟨_,_,rfl,aZ,⟨aj,λh=>by cases h⟩,λ_=>⟨_,rfl,World.news_of_block (t:=5) (fr:=(0,0)) (heap_alloc_new wr _)⟩⟩
   have C:=U5 a;have A:=ah a;clear a;have m:(sfx id k).length<=6:=by rw[oi];omega
   go_wp2;go_roundw
   case rel=>
    refine⟨k+1,aj,iE,?_,?_,n.out.new _⟩
    ·rw[HY2.out];simp
    ·show Value.string _=_;rw[ZI,show sfx id (k+1)=digit (id/10^k)::sfx id k from rfl,v.out];rfl
   case measure=>simp[intOf];omega
  ·obtain rfl:k=6:=aj
   have n:=ah l;clear l;have m:(sfx id 6).length=6:=oi _ _;go_wp2;go_ret;refine⟨?_,n.out⟩;rw[Pi,<-ZI];rfl
theorem b5m(a:Nm)(k:Nat):(⟨a.toArray⟩:ByteArray).extract 0 k=⟨(a.take k).toArray⟩:=by apply ByteArray.ext;simp[ByteArray.data_extract]
theorem b60(kind n:Nm)(w:aB)(hk:kind.length<=1000)(hn:n.length<=1000000):
 Calls prog 135 #[bJ kind,bJ n] w λe w'=>e=.returned (.bool (qW kind n))/\w'=w:=by
 unfold bJ;by_cases h1:n.length=kind.length+6
 ·have hx:=b5m n kind.length;by_cases h2:n.take kind.length=kind
  ·have h2':(n.take kind.length==kind)=true:=fO.2 h2;have hall:qW kind n=(n.drop kind.length).all mO:=by unfold qW;rw[aN h1,aN h2];rfl
   have rO:=ah hall;have H2:=ah h2;clear hall h2;go_enter func135,ntmps135
   go_wp2;go_loopw [5] (λi wr=>∃k:Nat,k<=6/\i=.int .i64 ((kind.length+k:Nat))/\((n.drop kind.length).take k).all mO=true/\wr=w) (λi _=>kind.length+6 - (intOf i).toNat)
   case atStart=>exact⟨0,aj,aZ,aZ,rfl⟩
   case round=>
    obtain⟨k,hk6,rfl,hdig,rfl⟩:=hrel;by_cases hlt:k<6
    ·have hkl:kind.length+k<n.length:=aj
     obtain⟨b,hb⟩:∃b,n[kind.length+k]=b:=⟨_,rfl⟩;have hs:kind.length+k<(⟨n.toArray⟩:ByteArray).size:=by show _<n.toArray.size;simpa using hkl
     have hidx:(⟨n.toArray⟩:ByteArray)[kind.length+k]=b:=by rw[<-hb];rfl
     have hb8:=LQ b;have hstep:((n.drop kind.length).take (k+1)).all mO=mO b:=by rw[cO,List.all_append,hdig,lg,au hkl,hb];simp
     have HS:=ah hstep;have HB:=ah hb;have HD:=ah hdig;clear hstep hb hdig;by_cases hd:48<=b.toNat/\b.toNat<=57
     ·have hdd:mO b=true:=by unfold mO;exact aN hd
      have HDD:=ah hdd;clear hdd;go_wp2;go_roundw
      case rel=>exact⟨k+1,aj,iE,by rw[HS.out,HDD.out],qc⟩
      case measure=>simp[intOf];omega
     ·have hdd:mO b=false:=by unfold mO;exact aK hd
      have hr:qW kind n=false:=by
       rw[rO.out];refine zN.2 λhall=>?_;rw[aU] at hall;have:=hall b (by rw[<-HB.out];refine aH (i:=k) ?_;rw[lg,au hkl])
       rw[hdd] at this;cases this
      have HR:=ah hr;clear hr hdd;have hd':b.toNat<48\/57<b.toNat:=aj
      clear hd;rcases hd' with hd'|hd'
      ·go_wp2;go_ret;exact⟨by rw[HR.out];rfl,rfl⟩
      ·go_wp2;go_ret;exact⟨by rw[HR.out];rfl,rfl⟩
    ·obtain rfl:k=6:=aj
     have hr:qW kind n=true:=by rw[rO.out,<-hdig,bU];simp;omega
     have HR:=ah hr;clear hr hdig;go_wp2;go_ret;exact⟨by rw[HR.out];rfl,rfl⟩
  ·have h2':(n.take kind.length==kind)=false:=bG.2 h2;have hr:qW kind n=false:=by unfold qW;rw[aK h2];simp
   have HR:=ah hr;clear hr h2;go_enter func135,ntmps135
   go_wp2;go_ret;exact⟨by rw[HR.out];rfl,rfl⟩
 ·have hr:qW kind n=false:=by unfold qW;rw[aK h1];rfl
  have HR:=ah hr;clear hr;go_enter func135,ntmps135
  go_wp2;go_ret;exact⟨by rw[HR.out];rfl,rfl⟩
theorem eo(h:u<10):Lib.decDigits u=[digit u]:=by rw[Lib.decDigits,dif_pos h];unfold digit;rw[Nat.mod_eq_of_lt h]
theorem VM(h:¬u<10):Lib.decDigits u=Lib.decDigits (u/10)++[digit u]:=by rw[Lib.decDigits,dif_neg h];rfl
theorem sg(u:Nat):∀k,sfx u (k+1)=sfx (u/10) k++[digit u]:=by
 intro k
 induction k with
 | zero=>simp[sfx]
 | succ k c=>have a:sfx u (k+1+1)=digit _::sfx u _:=rfl;have b:sfx (u/10) (k+1)=digit _::sfx _ k:=rfl;rw[a,b,c,Nat.div_div_eq_div_mul,jy];rfl
theorem c3E:∀m,sfx 0 m=Lib.repeatL [48] m:=by
 intro m
 induction m with
 | zero=>rfl
 | succ m b=>have a:sfx 0 (m+1)=digit _::sfx 0 m:=rfl;rw[a,b,Nat.zero_div];rfl
theorem c6v:∀(k u:Nat),u<10^(k+1)->∃j,(Lib.decDigits u).length+j=k+1/\Lib.repeatL [48] j++Lib.decDigits u=sfx u (k+1):=by
 intro k
 induction k with
 | zero=>
  intro u h;have b:=kT
  exact⟨0,by rw[eo b];rfl,by rw[eo b];simp[sfx,Lib.repeatL]⟩
 | succ k c=>
  intro u h;by_cases b:u<10
  refine⟨k+1,by rw[eo b];simp;omega,?_⟩;rw[eo b,sg u<|k+1,show u/10=0 by omega,c3E]
  let⟨j,e,d⟩:=c (u/10) aj;refine⟨j,by rw[VM b];simp;omega,?_⟩;rw[VM b,sg u<|k+1,<-d,iM]
def GZ:Nm:=[48,49,50,51,52,53,54,55,56,57]
theorem XN(b:UInt8):GZ.contains b=mO b:=by
 have:∀n:Fin 256,GZ.contains (UInt8.ofNat n.val)=mO (UInt8.ofNat n.val):=dA
 have h:=this ⟨b.toNat,b.toNat_lt⟩;simpa using h
theorem VC(p:α->Bool)(l:List α):l.dropWhile p=[]<->∀x∈l,p x=true:=by
 induction l with
 | nil=>simp
 | cons x l a=>
  rw[List.dropWhile_cons];by_cases h:p x=true
  rw[if_pos h,a];simp[h]
  grind
theorem b0t(p:α->Bool)(l:List α)(x:α)(k:List α)(h:l.dropWhile p=x::k):p x=false:=by
 induction l with
 | nil=>trivial
 | cons=>rw[List.dropWhile_cons] at h;grind
theorem c0c(l cs:dV):Lib.trimS l cs=[]<->∀b∈l,cs.contains b=true:=by
 unfold Lib.trimS Lib.trimLeftS Lib.trimRightS;rw[VC];constructor
 intro h
 cases e:l.reverse.dropWhile (cs.contains ·) with
 | nil=>rw[VC] at e;grind
 | cons x=>have f:=h x fU;rw[b0t _ _ _ _ e] at f;cases f
 intro h b c;have:=List.mem_reverse.1 c;exact h b (List.mem_reverse.1<|(List.dropWhile_sublist _).subset this)
theorem c0d(kind n:Nm):qW kind n=(Lib.hasPrefix n kind&&(decide ((Lib.trimPrefix n kind).length=6)&&decide (Lib.trimS (Lib.trimPrefix n kind) GZ=[]))):=by
 have i:decide (Lib.trimS (n.drop kind.length) GZ=[])=(n.drop kind.length).all mO:=by rw[rE,decide_eq_true_iff,c0c,aU];exact⟨λh b e=>by rw[<-XN];simp_all,λh b e=>by rw[XN];simp_all⟩
 unfold qW Lib.trimPrefix;by_cases d:Lib.hasPrefix n kind=true
 rw[if_pos d,d,i];unfold Lib.hasPrefix at d;rw[Nb] at d;obtain⟨t,rfl⟩:=d;simp
 have f:Lib.hasPrefix n kind=false:=fU
 rw[f];have:¬n.take kind.length=kind:=by
  intro h;apply d;unfold Lib.hasPrefix;rw[Nb]
  exact⟨n.drop kind.length,by conv=>lhs;lhs;rw[<-h]
                              apply iy⟩
 grind
def S9(w:aB):Prop:=Lib.TabIs prog w "internal/strconv.uint64pow10" .u64 Lib.pow10Tab
theorem S9.ext{w w':aB}(h:S9 w)(d:Ext w w'):S9 w':=by
 unfold S9 Lib.TabIs World.var? at *
 cases c:Program.globalNamed _ _ with
 | none=>trivial
 | some g=>simp[c,fK] at h⊢;rw[d.block g fU];exact h
theorem c3F(w:aB)(k:Nat)(os:Array Obj):Ext w (Go.Sort.grow (w.drewN k) os):=by
 have h:=gZ w k;refine⟨h.os,h.tape,h.output,?_,λb a=>?_⟩
 show w.heap.size<=((w.drewN k).heap++os).size;have:=h.size;simp only[Array.size_append];omega
 show((w.drewN k).heap++os)[b]?=_;rw[f_ kT];rfl
theorem Qs(b:Nm)(id:Nat)(w:aB)(hk:b.length<=1000)(hid:id<=999999)(p:S9 w):
 Calls prog 56 #[bJ b,.int .i64 id] w λe w'=>e=.returned (bJ (y7 b id))/\Ext w w':=by
 obtain⟨j,B,n⟩:=c6v 5 id aj;have hit:Lib.itoa (id:Int)=Lib.decDigits id:=rfl
 have k:=Tryz.strconv_Itoa (id:Int) aj aj w p;rw[hit] at k;obtain⟨l,d⟩:∃l,Lib.decDigits id=l:=⟨_,rfl⟩;rw[d] at k B n;clear hit d p;unfold bJ;go_enter func56,ntmps56
 go_wp2_with fail
 refine k.mono ?_;rintro e H ⟨rfl,q,s,rfl⟩;have t:(6:Int) - (l.length:Int)=(j:Int):=aj
 have y:=aj
 have f:(Lib.repeatL [48] j).length=j:=by rw[Lib.repeatL_length];simp
 obtain⟨i,c⟩:∃i,Lib.repeatL [48] j=i:=⟨_,rfl⟩;rw[c] at f;have C:i.length<=6:=aj
 clear f;go_wp2_with fail
 apply(ah (Tryz.strings_Repeat _ j _ aj (by show 1*j<=_;omega))).out.mono;rintro e G ⟨rfl,h⟩;have z:=ah (lI (ah (c3F w q s)).out h);clear h;go_wp2;go_ret;refine⟨?_,z.out⟩;rw[Pi,<-n,c,<-iM,<-ZI,<-ZI];rfl
theorem b62(n:Nm)(w:aB)(D:n.length<=1000000):
 Calls prog 133 #[bJ n] w λe w'=>e=.returned (.bool (qW qx n))/\Ext w w':=by
 have o:=c0d qx n;have c:=Tryz.strings_CutPrefix ⟨n.toArray⟩ ⟨qx.toArray⟩ w;simp only[List.toList_toArray] at c;obtain⟨s,q⟩:∃s,Lib.trimPrefix n qx=s:=⟨_,rfl⟩;rw[q] at c o;have r:=ah c;clear c q;unfold bJ;unfold qx at r;go_enter func133,ntmps133
 go_wp2_with fail
 refine r.out.mono ?_;rintro e B ⟨rfl,rfl⟩
 cases m:Lib.hasPrefix n [104,105,110,116,45] with
 | false=>
  go_wp2;go_ret;refine⟨?_,dh _⟩
  rw[o,show Lib.hasPrefix n qx=false from m];rfl
 | true=>
  by_cases u:s.length=6
  have f:=Any.strings_Trim_laid Tryz.lays160 aW ⟨s.toArray⟩ ⟨GZ.toArray⟩ B (by show s.toArray.size<=_;simp;omega) dA (by intro j b hb;have:b∈GZ:=aH hb;simp[GZ] at this;rcases this with h|h|h|h|h|h|h|h|h|h<;>rw[h]<;>decide)
  have HT:=ah f;clear f;unfold GZ at HT;go_wp2_with fail
  refine HT.out.mono ?_;rintro e C ⟨rfl,i⟩;obtain⟨t,f⟩:∃t,Lib.trimS s GZ=t:=⟨_,rfl⟩;rw[show Lib.trimS _ (⟨#[48,49,50,51,52,53,54,55,56,57]⟩:ByteArray).data.toList=t from f];have p:qW qx n=decide (t=[]):=by rw[o,show Lib.hasPrefix n qx=true from m,aN u,f];rfl
  clear m
  cases t with
  | nil=>
   go_wp2;go_ret
   simp_all
  | cons x t=>go_wp2;go_ret;simp_all
  go_wp2;go_ret;refine⟨?_,dh _⟩;simp_all
theorem P6.ext{w w':aB}{v:aX}{l:Fl}(h:P6 w v l)(e:Ext w w'):P6 w' v l:=by obtain⟨a,d,b,rfl,s,r,m,k,j⟩:=h;refine⟨a,d,b,rfl,s,r,m,λi p c=>?_,λi p q c f=>⟨(j i p q c f).1,(j i p q c f).2.ext e⟩⟩;let⟨g,o,n,t⟩:=k i p c;exact⟨g,o,e.cell n,e.cell t⟩
theorem P6.at{a:Option Addr}{cap:Nat}(h:P6 w (.slice a l.length cap) l){q:Nm×List UInt8}(i:l[k]?=some q):
 ∃g f,a=some ⟨g,0,none⟩/\w.cell? ⟨g,k*2,none⟩=some (bJ q.1)/\w.cell? ⟨g,k*2+1,none⟩=some f/\Bytes w f q.2:=by
 obtain⟨z,y,o,d,-,-,x,b,n⟩:=h;have v:=(aJ.1 i).1;let⟨e,c⟩:∃p,o[k]?=some p:=⟨_,au<|aj⟩;grind
def P6.form(h:P6 w v l):∃a cap,v=.slice a l.length cap/\l.length<=cap/\cap<=9223372036854775807:=have⟨b,c,g,d,f,e,_⟩:=h;⟨b,c,d,f,e⟩
def Wq(w:aB)(b:Nat)(d:fC):Prop:=
 ∃(e:Int)(a:Option Addr)(c:Nat),o6 w b 50 #[.int .u64 e,.slice a d.length c]/\d.length<=c/\c<=9223372036854775807/\
  ∀(i:Nat)x,d[i]?=some x->∃g,a=some ⟨g,0,none⟩/\w.cell? ⟨g,i*3,none⟩=some (.int .i64 x)
theorem Wq.ext{w w':aB}{b:Nat}{d:fC}(h:Wq w b d)(j:Ext w w'):Wq w' b d:=by let⟨e,a,f,k,l,o,p⟩:=h;refine⟨e,a,f,(j.block b k.lt).trans k,l,o,λi x m=>?_⟩;let⟨g,n,c⟩:=p i x m;exact⟨g,n,j.cell c⟩
def zk(a:fC):Prop:=a.length<=60/\∀x∈a,1<=x/\x<=999999
theorem b4E(a:fC)(k:Nat)(b:k<a.length)(n:Nm):X6 (a.take (k+1)) n=(X6 (a.take k) n||decide (y7 D6 a[k].toNat=n)):=by unfold X6;rw[take_snoc a k b,List.any_append];simp
theorem c5e(v:aX)(l:Fl)(b:Nat)(c:fC)(w:aB)(h:P6 w v l)(hs:Wq w b c)(hi:zk c)(W:∀p∈l,p.1.length<=1000000)(X:PW l c=true):
 Calls prog 79 #[v,.pointer (some b)] w λe w'=>e=.returned (.bool true)/\Ext w w':=by
 obtain⟨a,cap,rfl,hc,hc'⟩:=h.form;have H:=ah h;have HS:=ah hs;have HI:=ah hi;have HN:=ah W;have HT:=ah X;clear h hs hi W X;go_enter func79,ntmps79
 go_wp2;go_loopw [5] (λi wr=>∃k:Nat,k<=l.length/\i=.int .i64 k/\Ext w wr) (λi _=>l.length - (intOf i).toNat)
 case atStart=>exact⟨0,aj,rfl,dh w⟩
 case round=>
  obtain⟨k,hk,rfl,z⟩:=hrel;by_cases L:k<l.length
  ·obtain⟨q,J⟩:∃q,l[k]?=some q:=⟨_,au L⟩;have E:=aH J;have YD:=HN.out q E;obtain⟨g,bv,rfl,c0,c1,hb⟩:=(H.out.ext z).at J;have m:=b60 qx q.1 wr (by simp[qx]) YD;have G:(decide (q.1=y8)||(qW qx q.1||X6 c q.1))=true:=by have:=HT.out;unfold PW at this;rw[aU] at this;exact this q E
   have nR:=ah m;have F:=ah z;have HTI:=ah G;clear m z G hb J c1;unfold bJ at c0 nR;unfold qx at nR;go_wp2_with fail
   refine nR.out.mono ?_;rintro e w1 ⟨rfl,rfl⟩;by_cases D:q.1=y8
   ·have hm':(q.1==[109,97,110,105,102,101,115,116])=true:=fO.2 D;clear D;go_wp2;go_roundw
    case rel=>exact⟨k+1,aj,iE,F.out⟩
    case measure=>simp[intOf];omega
   ·have hm':(q.1==[109,97,110,105,102,101,115,116])=false:=bG.2 D;have HM:=ah D;clear D
    cases hh:qW [104,105,110,116,45] q.1 with
    | true=>
     go_wp2;go_roundw
     case rel=>exact⟨k+1,aj,iE,F.out⟩
     case measure=>simp[intOf];omega
    | false=>
     have Z:X6 c q.1=true:=by have h1:=HTI.out;rw[aK HM.out] at h1;have h2:qW qx q.1=false:=hh;rw[h2] at h1;simpa using h1
     have HL:=ah Z;clear Z;go_wp2;go_loopw [8,9] (λx i wq=>∃j:Nat,j<=c.length/\i=.int .i64 j/\x=.bool (X6 (c.take j) q.1)/\Ext w wq) (λ_ i _=>c.length - (intOf i).toNat)
     case atStart=>exact⟨0,aj,rfl,by simp[X6],F.out⟩
     case round=>
      obtain⟨j,hj,rfl,rfl,hEq⟩:=hrel;obtain⟨gen,sa,sc,t,hs1,hs2,s⟩:=HS.out.ext hEq;have s1:=(t.cell 1).trans (show _=some (Value.slice sa c.length sc) from rfl);by_cases r:j<c.length
      ·obtain⟨gs,rfl,sc0⟩:=s j _ (au r);have hr:=HI.out.2 c[j] (bQ r);obtain⟨y,Y⟩:∃y:Nat,c[j]=(y:Int):=⟨c[j].toNat,aj⟩;rw[Y] at sc0 hr;have f:=Qy D6 y wr IQ aj;have u:=b4E c j r q.1;rw[Y] at u;have rC:=ah hEq;have K:=ah f;have DJ:=ah u;clear hEq f u s t;unfold bJ at K;unfold D6 at K;go_wp2_with fail
       refine K.out.mono ?_;rintro e w2 ⟨rfl,hE2⟩;have C:=ah (lI rC.out hE2);clear hE2;obtain⟨I,f⟩:∃I,y7 [100,97,116,97,45] y=I:=⟨_,rfl⟩;rw[f];have zI:=ah f;clear f
       cases V:X6 (c.take j) q.1 with
       | true=>
        go_wp2;go_roundw
        case rel=>exact⟨j+1,aj,iE,by rw[DJ.out,V];rfl,C.out⟩
        case measure=>simp[intOf];omega
       | false=>
        have TJ:X6 (c.take (j+1)) q.1=(I==q.1):=by rw[DJ.out,V,fQ];show(false||decide (y7 [100,97,116,97,45] y=q.1))=_;rw[zI.out,mW];by_cases h:I=q.1<;>simp[h]
        have K5:=ah TJ;clear TJ;go_wp2;go_roundw
        case rel=>exact⟨j+1,aj,iE,by rw[K5.out],C.out⟩
        case measure=>simp[intOf];omega
      ·obtain rfl:j=c.length:=aj
       rw[bK,HL.out];have rC:=ah hEq;clear hEq s t;go_wp2;go_roundw
       case rel=>exact⟨k+1,aj,iE,rC.out⟩
       case measure=>simp[intOf];omega
  ·obtain rfl:k=l.length:=aj
   have F:=ah z;clear z;go_wp2;go_ret;exact⟨rfl,F.out⟩
theorem Ak{l:dV}{r:Rec}(h:dec l=some r):17<=r.size/\r.size<=l.length:=by
 unfold dec at h;split at h
 rename_i a;injection h with h;subst h;unfold good at a;simp[aI,bZ] at a;simp;omega
 cases h
def L9:Nat->Nat->List UInt8->List (Nat×Rec)
 | 0,_,_=>[]
 | n+1,a,l=>match dec (l.drop a) with
  | none=>[]
  | some r=>(a,r)::L9 n (a+r.size) l
def D7(l:dV):List (Nat×Rec):=L9 (l.length+1) 0 l
def O6(a:Int)(p:Nat×Rec):List Value:=[.int .i64 a,.int .i64 p.1,.int .i64 p.2.size,.int .u64 p.2.seq,.string ⟨p.2.key.toArray⟩,.string ⟨p.2.val.toArray⟩,.bool p.2.del]
theorem Hi{a:Nat}{l:dV}(h:dec (l.drop a)=none):L9 n a l=[]:=by
 cases n with
 | zero=>rfl
 | succ=>simp[L9,h]
def b7a:(prog.info? 160).map (λi=>(i.zero,i.size,i.bytes))=some (some (.agg #[.int .i64 0,.int .i64 0,.int .i64 0,.int .u64 0,.string ⟨#[]⟩,.string ⟨#[]⟩,.bool false]),7,72):=rfl
theorem c3J(seg:Int)(v:Value)(l:List UInt8)(w:World)(h:Bytes w v l)(hl:l.length<=1099511627776):
 Calls prog 61 #[.int .i64 seg,v] w λe w'=>∃u,e=.returned u/\w'.ownsRow w.heap.size 160 7 u (D7 l).length ((D7 l).flatMap (O6 seg))/\Ext w w':=by
 obtain⟨i0,hi,hz0,hz1,hz2⟩:=info_parts b7a;obtain⟨a,cap,rfl,hc1,hc2,hcell⟩:=id h;have H:=ah h;clear h hcell;go_enter func61,ntmps61
 go_wp2;go_loopw [5,6] (λu o wr=>∃(rs:List (Nat×Rec))(off n:Nat),o=.int .i64 off/\off<=l.length/\rs.length<=off/\D7 l=rs++L9 n off l/\l.length<n+off/\wr.ownsRow w.heap.size 160 7 u rs.length (rs.flatMap (O6 seg))/\Ext w wr) (λ_ o _=>l.length - (intOf o).toNat)
 case atStart=>exact⟨[],0,l.length+1,rfl,aj,aZ,rfl,aj,⟨rfl,Or.inl ⟨rfl,rfl⟩⟩,dh w⟩
 case round=>
  obtain⟨rs,off,n,rfl,hoff,hrs,hsc,hn,hown,hE⟩:=hrel;have hb1:=(H.out.ext hE).sliced off l.length hoff (ak _);rw[bK] at hb1;have HN:=ah hn;have K7:=ah hsc;have HO:=ah hown;have HE:=ah hE;have HB:=ah hb1;have K8:=ah hrs;clear hn hsc hown hE hb1 hrs;go_wp2_with fail
  all_goals
   have fS:=HB.out
   first
    | (rw[if_pos ‹cap=off›,show cap - off=0 by omega] at fS)
    | rw[if_neg ‹¬cap=off›] at fS
   refine(decode_any _ (l.drop off) wr fS).mono ?_;rintro e w1 ⟨rfl,hE1⟩;clear fS HB
   cases hd:dec (l.drop off) with
   | none=>
    have hX:o6 (w1.alloc (.cells #[.int .u64 0,.string ⟨#[]⟩,.string ⟨#[]⟩,.bool false] 111)) w1.heap.size 111 #[.int .u64 0,.string ⟨#[]⟩,.string ⟨#[]⟩,.bool false]:=jR _ _ rfl;have e0:=(K7.out).trans (by rw[Hi hd,dX]);have hown:=jH.row HO.out (w1.alloc (.cells #[.int .u64 0,.string ⟨#[]⟩,.string ⟨#[]⟩,.bool false] 111)) λb hb=>(hE1.new (.cells #[.int .u64 0,.string ⟨#[]⟩,.string ⟨#[]⟩,.bool false] 111)).block b (World.ownsRow.lt HO.out b hb).2;have hE2:Ext w (w1.alloc (.cells #[.int .u64 0,.string ⟨#[]⟩,.string ⟨#[]⟩,.bool false] 111)):=(lI HE.out hE1).new _;have HOW:=ah hown;have HE2:=ah hE2;have E0:=ah e0;clear hown hE2 e0 hX hE1;unfold qw Ar lK;go_wp2_with fail
    exact bodyPost_ret (v:=u5) (by simp[results,results61]) rfl ⟨u5,rfl,by rw[E0.out];exact HOW.out,HE2.out⟩
   | some r=>
    obtain⟨hr1,hr2⟩:=Ak hd;rw[fG] at hr2
    first
    | (exfalso;omega)
    | skip
      have hn:=HN.out;obtain⟨m,rfl⟩:∃m,n=m+1:=⟨n - 1,aj⟩;have e0:D7 l=(rs++[(off,r)])++L9 m (off+r.size) l:=by rw[K7.out,iM];simp[L9,hd]
      have hX:o6 (w1.alloc (.cells #[.int .u64 r.seq,.string ⟨r.key.toArray⟩,.string ⟨r.val.toArray⟩,.bool r.del] 111)) w1.heap.size 111 #[.int .u64 r.seq,.string ⟨r.key.toArray⟩,.string ⟨r.val.toArray⟩,.bool r.del]:=jR _ _ rfl;have hown:=jH.row HO.out (w1.alloc (.cells #[.int .u64 r.seq,.string ⟨r.key.toArray⟩,.string ⟨r.val.toArray⟩,.bool r.del] 111)) λb hb=>(hE1.new (.cells #[.int .u64 r.seq,.string ⟨r.key.toArray⟩,.string ⟨r.val.toArray⟩,.bool r.del] 111)).block b (World.ownsRow.lt HO.out b hb).2;have hE2:Ext w (w1.alloc (.cells #[.int .u64 r.seq,.string ⟨r.key.toArray⟩,.string ⟨r.val.toArray⟩,.bool r.del] 111)):=(lI HE.out hE1).new _;obtain⟨ua,uc,rfl⟩:=ownsRow_form HO.out;have hsz:w.heap.size<=(w1.alloc (.cells #[.int .u64 r.seq,.string ⟨r.key.toArray⟩,.string ⟨r.val.toArray⟩,.bool r.del] 111)).heap.size:=hE2.size;have hrl:=K8.out;have HOW:=ah hown;have HE2:=ah hE2;have E0:=ah e0;have HX:=ah hX;have lQ:=ah hE1;clear hown hE2 e0 hX hE1 HN K7 HO;unfold qw
      have hsz2:w.heap.size<=w1.heap.size+2:=by have:(w1.alloc (.cells #[.int .u64 r.seq,.string ⟨r.key.toArray⟩,.string ⟨r.val.toArray⟩,.bool r.del] 111)).heap.size=w1.heap.size+1:=aZ
                                                omega
      have hnw:((w1.alloc (.cells #[.int .u64 r.seq,.string ⟨r.key.toArray⟩,.string ⟨r.val.toArray⟩,.bool r.del] 111)).alloc (.cells #[.int .i64 seg,.int .i64 off,.int .i64 r.size,.int .u64 r.seq,.string ⟨r.key.toArray⟩,.string ⟨r.val.toArray⟩,.bool r.del] 160)).heap[w1.heap.size+1]?=some (.cells #[.int .i64 seg,.int .i64 off,.int .i64 r.size,.int .u64 r.seq,.string ⟨r.key.toArray⟩,.string ⟨r.val.toArray⟩,.bool r.del] 160):=by
       have e:(w1.alloc (.cells #[.int .u64 r.seq,.string ⟨r.key.toArray⟩,.string ⟨r.val.toArray⟩,.bool r.del] 111)).heap.size=w1.heap.size+1:=aZ
       rw[<-e];exact heap_alloc_new _ _
      go_wp2_with (at_builtin;go_must (refine A8 rfl _ _ 151 rfl w.heap.size 160 i0 (.agg #[.int .i64 0,.int .i64 0,.int .i64 0,.int .u64 0,.string ⟨#[]⟩,.string ⟨#[]⟩,.bool false]) 7 72 underlying151 hi hz0 hz1 hz2 rfl aj (.slice ua rs.length uc) rs.length _ rfl (World.ownsRow.alloc HOW.out (.cells #[.int .i64 seg,.int .i64 off,.int .i64 r.size,.int .u64 r.seq,.string ⟨r.key.toArray⟩,.string ⟨r.val.toArray⟩,.bool r.del] 160)) (.slice (some ⟨w1.heap.size+1,0,none⟩) 1 1) 1 [.int .i64 seg,.int .i64 off,.int .i64 r.size,.int .u64 r.seq,.string ⟨r.key.toArray⟩,.string ⟨r.val.toArray⟩,.bool r.del] rfl ⟨_,_,rfl,aj,⟨aj,λh=>by cases h⟩,λ_=>⟨_,rfl,World.news_of_block (cs:=#[.int .i64 seg,.int .i64 off,.int .i64 r.size,.int .u64 r.seq,.string ⟨r.key.toArray⟩,.string ⟨r.val.toArray⟩,.bool r.del]) (t:=160) (fr:=(0,0)) hnw⟩⟩ rfl qV lJ aj iw ?_);intro b6 c6 w6 hown6 hgrow6 kZ;have pX:=ah hown6;have yA:=ah hgrow6;clear hown6 hgrow6 kZ)
      go_roundw
      case rel=>
       refine⟨rs++[(off,r)],off+r.size,m,iE,aj,iw,E0.out,aj,?_,?_⟩
       ·have:=pX.out;rw[aC,dZ];simpa [O6] using this
       ·refine Below.grown (HE2.out.new _) yA.out iw (λj hj=>?_);have:=(World.ownsRow.lt HOW.out j hj).1;omega
      case measure=>simp[intOf];omega
def oP(w:aB)(e:bT)(a:Nat)(v:aX)(n:Nat)(xs:jl):Prop:=
 xs.length=n*a/\((v=.slice none 0 0/\n=0)\/∃g b c d,v=.slice (some ⟨g,0,none⟩) n b/\w.heap[g]?=some (.cells c e d)/\n<=b/\b<=maxLen/\c.size=b*a/\c.toList.take (n*a)=xs)
theorem oP.slice{xs:jl}(h:oP w e b v n xs):∃a c,v=.slice a n c:=by
 obtain⟨rfl,rfl⟩|⟨g,d,f,i,rfl,_⟩:=h.2
 exact⟨none,0,rfl⟩
 simp
theorem oP.keep{w':aB}{a:Nat}{xs:jl}(h:oP w e a v n xs)(j:∀g,v.ownBlock=some g->w'.heap[g]?=w.heap[g]?):oP w' e a v n xs:=by
 refine⟨h.1,?_⟩;obtain h|⟨g,b,c,i,rfl,f,d⟩:=h.2
 exact .inl h
 exact .inr ⟨g,b,c,i,rfl,(j g rfl).trans f,d⟩
end Go.Proofs.YtgpbhjjajpbeeaaGreatDoor
