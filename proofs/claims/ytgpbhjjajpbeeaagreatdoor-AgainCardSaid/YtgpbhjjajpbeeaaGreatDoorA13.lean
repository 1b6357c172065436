/- A part of what the last file proves. -/
import Derived.Test.YtgpbhjjajpbeeaaGreatDoorA02
import Derived.Test.YtgpbhjjajpbeeaaGreatDoorProg
import Derived.WalkKit
import Derived.WalkSpells
import Derived.WalkLawsBesides
import Derived.OneCell
import Derived.Lib.Strings
import Derived.Lib.AppendStr
import Derived.Laws.CopyOwn
import Derived.LaidEql
import Derived.Stop.Asserts
import Derived.RowKitTokens
import Derived.BigQuiet
import Derived.Deep.QuietTactic
import Derived.Deep.RegionHeld3
import Derived.Deep.AppendLies
import Derived.Deep.RegionLaw
set_option linter.all false
set_option maxRecDepth 100000
set_option maxHeartbeats 4000000
open Go.Proofs.Tryz
namespace Go.Proofs.YtgpbhjjajpbeeaaGreatDoor
variable{w:aB}{a:Option Addr}{u v x:aX}{l:dV}{e t:bT}{B C D b c d m n:Nat}{P:Program}{o:Oper}
open Go.RowKit Go.Lib Go.Extern.Stop Go.Stop Go.Extern Pl
def P8(s:ByteArray):s.data.toList.length=s.size:=rfl
def Ft(s:ByteArray):s.toList.isEmpty=decide (s.size=0):=by rw[Lib.toList_data,<-P8];cases s.data.toList<;>simp
def Aq(w:aB)(a:Addr)(xs:jl):Prop:=∀i x,xs[i]?=some x->w.cell? (a.add i)=some x
def vF(w:aB)(v:aX)(n:Nat)(xs:jl):Prop:=
 ∃(a:Option Addr)(c:Nat),v=.slice a n c/\n<=c/\(c<=9223372036854775807/\(a=none->c=0))/\(xs≠[]->∃b,a=some b/\Aq w b xs)
def eG(b:UInt8):Value:=.int .u8 b.toNat
def Dv(l:dV):∀u∈l.map eG,u.oneCell'=true:=by intro u a;obtain⟨b,_,rfl⟩:=aQ.1 a;rfl
def Bytes(w:aB)(v:aX)(l:dV):Prop:=vF w v l.length (l.map eG)
def Ints(w:aB)(v:aX)(l:fC):Prop:=vF w v l.length (l.map (Value.int .i64))
abbrev Ext(w w':aB):Prop:=Below w w w'
def Ext.refl(w:aB):Ext w w:=Below.refl _ _
abbrev dh:=@Ext.refl
def Ext.trans{a b c:aB}(h:Ext a b)(k:Ext b c):Ext a c:=Below.trans h<|k.mono h.size
abbrev lI:=@Ext.trans
def Ext.drewN(w:aB)(n:Nat):Ext w (w.drewN n):=by
 induction n with
 | zero=>exact .refl w
 | succ n a=>exact .drew a
abbrev gZ:=@Ext.drewN
def Ext.cell{w':aB}(h:Ext w w'){a:Addr}(b:w.cell? a=some v):w'.cell? a=some v:=
 (Below.cell h<|World.block_lt_of_cell? w a b).trans b
def Ext.new{w w':aB}(h:Ext w w')(o:Obj):Ext w (w'.alloc o):=.alloc h h.size o
def Aq.ext{w w':aB}(h:Ext w w'){a:Addr}{xs:jl}(b:Aq w a xs):Aq w' a xs:=
 λi x c=>h.cell<|b i x c
def vF.ext{w w':aB}(h:Ext w w'){v:aX}{n:Nat}{xs:jl}(g:vF w v n xs):vF w' v n xs:=by obtain⟨a,c,rfl,k,j,e⟩:=g;exact⟨a,c,rfl,k,j,λf=>let ⟨b,d,i⟩:=e f;⟨b,d,i.ext h⟩⟩
def Bytes.ext{w w':aB}(h:Ext w w'){v:aX}{l:dV}(a:Bytes w v l):Bytes w' v l:=vF.ext h a
def Ints.ext{w w':aB}(h:Ext w w'){v:aX}{l:fC}(a:Ints w v l):Ints w' v l:=vF.ext h a
def Bytes.open(h:Bytes w v l):
 ∃(a:Option Addr)(cap:Nat),v=.slice a l.length cap/\l.length<=cap/\cap<=9223372036854775807/\
  ∀i,(c:i<l.length)->∃b,a=some b/\w.cell? (b.add i)=some (.int .u8 (l[i]).toNat):=by
 obtain⟨a,cap,rfl,f,k,g⟩:=h;refine⟨a,cap,rfl,f,k.1,λi c=>?_⟩;let⟨b,d,j⟩:=g (by intro e;simp_all);exact⟨b,d,j i _<|by simp[c,eG]⟩
def Ints.open{l:fC}(h:Ints w v l):
 ∃(a:Option Addr)(cap:Nat),v=.slice a l.length cap/\l.length<=cap/\cap<=9223372036854775807/\
  ∀i,(c:i<l.length)->∃b,a=some b/\w.cell? (b.add i)=some (.int .i64 l[i]):=by
 obtain⟨a,cap,rfl,f,k,g⟩:=h;refine⟨a,cap,rfl,f,k.1,λi c=>?_⟩;let⟨b,d,j⟩:=g (by intro e;simp_all);exact⟨b,d,j i _<|aZ⟩
def Dq:(prog.info? 5).map (λi=>(i.zero,i.size,i.bytes))=some (some (.int .u8 0),1,1):=aW
def WY:(prog.info? 3).map (λi=>(i.zero,i.size,i.bytes))=some (some (.int .i64 0),1,8):=aW
def ownsRow_ne{a:Nat}{xs:jl}(h:w.ownsRow a e c v n xs)
 {cs:dU}{fr:Nat×Nat}(m:w.heap[b]?=some (.cells cs t fr))(k:t≠e):v.ownBlock≠some b:=by
 obtain⟨rfl,_⟩|⟨g,j,i,rfl,o,d,r⟩:=h.2
 simp[Value.ownBlock]
 intro f;simp[Value.ownBlock] at f;grind
def ownsRow_form{xs:jl}(h:w.ownsRow d e b v n xs):∃(a:Option Addr)(c:Nat),v=.slice a n c:=by
 obtain⟨rfl,rfl⟩|⟨g,f,i,rfl,r⟩:=h.2
 exact⟨none,0,rfl⟩
 simp
def Xs(s:ByteArray):strCells s=s.data.toList.map eG:=rfl
def b1K(w:aB)(B:Nat)(o q r b:bT)(y:P.underlying o=some (.slice b))(l:(P.info? b).map (·.size)=some 1)
 {xs:jl}(f:w.ownsRow B b 1 v n xs)(t:Option Addr)(d h:Nat)(cs:jl)(s:cs.length=Nat.min d n)
 (j:cs≠[]->∃ad,t=some ad/\Aq w ad cs)(E:∀u∈cs,u.oneCell'=true):
 ∃w',(Builtin.copy_ #[o,q] r #[v,.slice t d h]).run P w=.ok (goInt cs.length) w'/\w'.ownsRow B b 1 v n (cs++xs.drop cs.length)/\w.grownBy w' v.ownBlock:=by
 by_cases p:cs=[]
 subst p;obtain⟨a,c,rfl⟩:=ownsRow_form f;refine⟨w,run_copy_none w o q r b a t n c d h y l iL,by simpa using f,rfl,rfl,rfl,ak _,λ_ _ _=>rfl⟩
 obtain⟨ad,rfl,H⟩:=j p;have z:=uN.2 p;have x:cs.length<=n:=by rw[s];apply Nat.min_le_right
 have J:=by simpa using f.1
 obtain⟨rfl,L⟩|⟨g,m,i,rfl,G,C,K,D,I,A⟩:=f.2
 omega
 simp at I A;refine⟨_,run_copy_row P w o q r b g 0 n m ad d h i b cs y l C s H aj E,⟨?_,.inr ⟨g,m,_,rfl,G,setRow_heap w g i _ b _ C,K,D,?_,?_⟩⟩,?_⟩
 simp;omega
 simp;omega
 simp[nS,List.take_zero,eF,tq];rw[<-A,List.take_append,bU aj,fZ]
 exact⟨rfl,rfl,rfl,aZ,λk _ F=>setRow_other w g k _ (λe=>F (by simp[Value.ownBlock,e]))⟩
def b0G{ops:Array Oper}{a:Act}{K:Act->World->Prop}{Q:Exit->Act->World->Prop}{E:Prop}(l:o.guard=none)(d s:Operand)(m q:bT)
 (t:o.op=.call {callee:=.builtin .copy,args:=#[d,s],argTypes:=#[m,q]})(B:Nat)(b:bT)(C:P.underlying m=some (.slice b))(p:(P.info? b).map (·.size)=some 1)
 (v:aX)(n:Nat)(xs:jl)(y:a.eval d=v)(j:w.ownsRow B b 1 v n xs)(k:Option Addr)(e f:Nat)(r:a.eval s=.slice k e f)
 (cs:jl)(x:cs.length=Nat.min e n)(g:cs≠[]->∃ad,k=some ad/\Aq w ad cs)(z:∀u∈cs,u.oneCell'=true)
 (h:∀w',w'.ownsRow B b 1 v n (cs++xs.drop cs.length)->w.grownBy w' v.ownBlock->K (a.put o.dst (goInt cs.length)) w'):
 if Region.wanted o (yielded ops a.tmps)=true then Oper.wp P o a w K Q else E:=by
 rw[if_pos (by simp[Region.wanted,l])];let⟨w',i,F,A⟩:=b1K w B m q o.type b C p j k e f cs x g z;unfold Oper.wp;simp[execOp,t,resolve,invoke,builtin,y,r,i];exact h w' F A
def OwnB(w:aB)(B:Nat)(v:aX)(l:dV):Prop:=w.ownsRow B 5 1 v l.length (l.map eG)
def OwnB.bytes(h:OwnB w B v l):Bytes w v l:=by
 obtain⟨rfl,e⟩|⟨g,a,c,rfl,p,o,d,k,m,n⟩:=h.2
 have:=dL e;subst this;exact⟨none,0,rfl,aZ,⟨aj,λ_=>rfl⟩,aZ⟩
 exact⟨some _,a,rfl,d,⟨qc,λh=>by cases h⟩,λ_=>⟨_,rfl,λi x f=>h.cells rfl i x f⟩⟩
def H6{a:Nat}{xs:jl}(h:w.ownsRow b e c v n xs)(m:a<=b):w.ownsRow a e c v n xs:=by
 let⟨j,f⟩:=h;refine⟨j,?_⟩;obtain f|⟨g,i,d,rfl,k,l,r⟩:=f
 exact .inl f
 exact .inr ⟨g,i,d,rfl,ay m k,l,r⟩
def ownsRow_below{w':aB}{a:Nat}{xs:jl}(h:w.ownsRow b e a v n xs)
 (l:Below w w w'):w'.ownsRow b e a v n xs:=by
 let⟨j,d⟩:=h;refine⟨j,?_⟩;obtain d|⟨g,f,c,rfl,k,i,r⟩:=d
 exact .inl d
 exact .inr ⟨g,f,c,rfl,k,(l.block g<|lt_of_block i).trans i,r⟩
def OwnB.cells{cap:Nat}(h:OwnB w B (.slice a n cap) l):l.map eG≠[]->∃ad,a=some ad/\Aq w ad (l.map eG):=by let⟨i,c,d,g,f,b⟩:=h.bytes;grind
def Aq.drop{a:Addr}{xs:jl}(h:Aq w a xs)(k:Nat):Aq w (a.add k) (xs.drop k):=by
 intro i x b;have e:(a.add k).add i=a.add (k+i):=by unfold Addr.add;split<;>split<;>(split)<;>simp_all<;>omega
 rw[e];exact h _ _ fU
def Bytes.sliced{cap:Nat}(h:Bytes w (.slice a n cap) l)(i j:Nat)(t:i<=j)(D:j<=l.length):
 Bytes w (.slice (if cap=i then a else a.map (·.add i)) (j - i) (cap - i)) ((l.take j).drop i):=by
 let⟨C,c,z,B,y,u⟩:=h;injection z with s o v;subst s;subst v;have d:((l.take j).drop i).length=j - i:=iL
 unfold Bytes;rw[d];refine⟨_,_,rfl,aj,⟨aj,λo=>?_⟩,λq=>?_⟩
 have:a=none:=by
  cases a with
  | none=>rfl
  | some b=>split at o<;>simp at o
 have:=y.2 this;omega
 let⟨b,A,f⟩:=u (by intro e;simp_all);subst A;by_cases k:cap=i
 exfalso;apply q;apply dL;rw[bV,d];omega
 refine⟨b.add i,by simp[k],?_⟩;intro m x g;apply Aq.drop f i m x;simp only[dF,fB,lg] at g⊢;split at g
 exact g
 trivial
def WN(w:aB)(g:Nat)(t s e:bT)(i:TypeInfo)(z:aX)(d bytes:Nat)(G:P.underlying t=some (.slice e))(I:P.info? e=some i)(J:i.zero=some z)
 (o:i.size=d)(r:i.bytes=bytes)(y:z.cells.size=d)(q:0<d)
 (v:aX)(n:Nat)(xs:jl)(h:w.ownsRow g e d v n xs)(x:aX)(m:Nat)(f:jl)(Q:vF w x m f)(E:f.length=m*d)(N:∀u∈f,u.oneCell'=true)
 (D:n+m<=maxLen)(k:(n+m)*bytes<=140737488355328)(l:g<=w):
 ∃v' w',(Builtin.append_ #[t,t] s #[v,x]).run P w=.ok v' w'/\w'.ownsRow g e d v' (n+m) (xs++f)/\w.grownBy w' v.ownBlock/\(v'.ownBlock=v.ownBlock\/v'.ownBlock=some w.heap.size):=by
 obtain⟨a,c,rfl,L,⟨T,B⟩,O⟩:=Q
 cases a with
 | none=>
  obtain rfl:=B rfl;obtain rfl:m=0:=aj
  exact⟨v,w,run_append_owned_none (w:=w) g t s e i d G I v n xs h,iL,.refl w _,.inl rfl⟩
 | some F=>
  let⟨v',w',K,R,S,_,M⟩:=run_append_own_at w g t s e i z d _ G I J o r y q v n xs h F m c f E (by intro j u H;let⟨b,C,A⟩:=O fU;injection C with C;subst C;exact A j u H) N D k l;exact⟨v',w',K,R,S,M⟩
def A8{ops:Array Oper}{rest:List Oper}{a:Act}{Q:Exit->Act->World->Prop}(D:o.guard=none)(s x:Operand)(t:bT)
 (N:o.op=.call {callee:=.builtin .append,args:=#[s,x],argTypes:=#[t,t]})
 (g:Nat)(e:bT)(i:TypeInfo)(z:aX)(d bytes:Nat)(T:P.underlying t=some (.slice e))(J:P.info? e=some i)(S:i.zero=some z)
 (k:i.size=d)(C:i.bytes=bytes)(B:z.cells.size=d)(r:0<d)
 (v:aX)(n:Nat)(xs:jl)(L:a.eval s=v)(q:w.ownsRow g e d v n xs)(y:aX)(m:Nat)(f:jl)(O:a.eval x=y)(F:vF w y m f)(M:f.length=m*d)(I:∀u∈f,u.oneCell'=true)
 (A:n+m<=maxLen)(j:(n+m)*bytes<=140737488355328)(l:g<=w)
 (h:∀b c w',w'.ownsRow g e d (.slice b (n+m) c) (n+m) (xs++f)->w.grownBy w' v.ownBlock->((Value.slice b (n+m) c).ownBlock=v.ownBlock\/(Value.slice b (n+m) c).ownBlock=some w.heap.size)->wpList P ops Q rest (a.put o.dst (.slice b (n+m) c)) w'):
 wpList P ops Q (o::rest) a w:=by
 refine wpList_plain D λK H=>?_;let⟨U,w',p,E,R,G⟩:=WN w g t o.type e i z d _ T J S k C B r v n xs q y m f F M I A j l;obtain⟨b,c,rfl⟩:=ownsRow_form E;unfold Oper.wp execOp;simp[N,resolve,invoke,builtin,Sem.run_bind,Sem.run_pure,Result.andThen_ok,fM,bD,dS,L,O,p];exact H _ _ (h b c w' E R G)
def wpList_append_text{ops:Array Oper}{rest:List Oper}{a:Act}{Q:Exit->Act->World->Prop}(q:o.guard=none)(sl x:Operand)(t u:bT)
 (r:o.op=.call {callee:=.builtin .append,args:=#[sl,x],argTypes:=#[t,u]})
 (d:Nat)(e:bT)(i:TypeInfo)(z:P.underlying t=some (.slice e))(D:P.underlying u=some .string)(B:P.info? e=some i)(C:i.zero=some (.int .u8 0))
 (j:i.size=1)(n:i.bytes=1)
 (v:aX)(l:dV)(y:a.eval sl=v)(k:w.ownsRow d e 1 v l.length (l.map eG))(s:ByteArray)(A:a.eval x=.string s)
 (m:l.length+s.size<=maxLen)(f:l.length+s.size<=140737488355328)(g:d<=w)
 (h:∀b c w',w'.ownsRow d e 1 (.slice b (l.length+s.size) c) (l++s.data.toList).length ((l++s.data.toList).map eG)->w.grownBy w' v.ownBlock->wpList P ops Q rest (a.put o.dst (.slice b (l.length+s.size) c)) w'):wpList P ops Q (o::rest) a w:=by
 apply wpList_append_own_string w q _ x t u r d e i z D B C j n v _ _ y k s A m f g;intro F w' p E _;obtain⟨b,c,rfl⟩:=ownsRow_form p;rw[Xs] at p;simp_all
def OwnB.tail{g cap k:Nat}(h:OwnB w B (.slice (some ⟨g,0,none⟩) n cap) l)(z:k<=l.length)(t:0<k):
 (cap≠k->Bytes w (.slice (some ⟨g,k,none⟩) (l.length - k) (cap - k)) (l.drop k))/\(cap=k->Bytes w (.slice (some ⟨g,0,none⟩) (l.length - k) 0) (l.drop k)):=by
 obtain⟨a,c,r,v,y,o⟩:=h.bytes;injection r with p u s;subst s;constructor
 intro _;refine⟨_,_,by rw[fG],by rw[fG];omega,⟨aj,λh=>by cases h⟩,λm=>⟨_,rfl,λi x q=>?_⟩⟩;let⟨b,j,d⟩:=o (by intro e;simp_all);rw[<-p] at j;injection j with j;have:=d (k+i) x iL;rw[<-j] at this;have e:(g:Addr).add (k+i)=(⟨g,k,none⟩:Addr).add i:=by unfold Addr.add;split<;>(split)<;>simp_all<;>omega
 rw[<-e];exact this
 intro e;refine⟨_,_,by rw[fG],iL,⟨aj,λh=>by cases h⟩,λm=>?_⟩;simp_all
def methodKind(h:aX)(w:aB):(Go.method 495 275 (.agg #[h]) "Kind").run prog w=.ok (248,h) w:=aW
def methodElem(h:aX)(w:aB):(Go.method 495 275 (.agg #[h]) "Elem").run prog w=.ok (261,.agg #[h]) w:=aW
def methodImplements(h:aX)(w:aB):(Go.method 495 275 (.agg #[h]) "Implements").run prog w=.ok (262,.agg #[h]) w:=aW
def methodAssignableTo(h:aX)(w:aB):(Go.method 495 275 (.agg #[h]) "AssignableTo").run prog w=.ok (259,.agg #[h]) w:=aW
def rlm(z:Sem Value)(f:TypeId->Addr->Nat->Nat->Sem Value)(v:aX):
 ReflectliteValue.method z f #[v]=(do match <-ReflectliteValue.parts v with|none=>z|some (t,a,fl)=>f t a fl (fl%32)):=rfl
def rls(v x:aX):ReflectliteValue.set #[v,x]=(do
 let (some (dst,a,fl),some (src,b,_)):=(<-ReflectliteValue.parts v,<-ReflectliteValue.parts x)
  | unsupported (.noEntry "extern/(internal/reflectlite.Value).Set.zeroValue")
 if fl/ReflectliteValue.flagAddr%2==0 then unsupported (.noEntry "extern/(internal/reflectlite.Value).Set.unaddressable")
 let val <-loadVar src b
 if <-Rtype.directlyAssignable dst src then storeVar dst a val
 else if <-Rtype.implements dst src then
  if (<-Rtype.kind src)==20 then
   match val with
   | .nilIface=>unsupported (.noEntry "extern/reflectlite: a nil value of one interface type handed on as a value of another")
   | _=>storeVar dst a val
  else storeVar dst a (.iface src val)
 else panicString ("reflectlite.Set: value of type "++(<-Rtype.spelt src)++ " is not assignable to type "++(<-Rtype.spelt dst))
 pure (.tuple #[])):=rfl
def A4(t:Addr)(w:aB):(ReflectliteValue.unpack (.iface 162 (.pointer (some t)))).run prog w
 = .ok (.agg #[.pointer (some ⟨7,162,none⟩),.pointer (some w),.int .u64 150]) (w.alloc (.cells #[.pointer (some t)] 162)):=aW
def lj(a:Addr)(w:aB):(ReflectliteValue.methodAny (ReflectliteValue.valueError "reflectlite.Value.Type" 0) (λt _ _ _=>ReflectliteType.toType t) #[.agg #[.pointer (some ⟨7,162,none⟩),.pointer (some a),.int .u64 150]]).run prog w
 = .ok (.iface 275 (.agg #[.pointer (some ⟨7,162,none⟩)])) w:=aW
def li(w:aB):((ReflectliteType.abiMethod λt=>Functor.map (λa:Nat=>Value.int IntKind.u8 (a:Int)) (Rtype.kind t)) #[.pointer (some ⟨7,162,none⟩)]).run prog w=.ok (.int .u8 22) w:=aW
def lh(w:aB):((ReflectliteType.abiMethod λt=>Functor.map (λa:Nat=>Value.int IntKind.u8 (a:Int)) (Rtype.kind t)) #[.pointer (some ⟨7,132,none⟩)]).run prog w=.ok (.int .u8 22) w:=aW
def pp(a:Addr)(w:aB):(ReflectliteValue.parts (.agg #[.pointer (some ⟨7,162,none⟩),.pointer (some a),.int .u64 150])).run prog w=.ok (some (162,a,150)) w:=aW
def po(a p:Addr)(W:aB)(ha:W.cell? a=some (.pointer (some p))):
 (ReflectliteValue.method (ReflectliteValue.valueError "reflectlite.Value.IsNil" 0) ReflectliteValue.isNil #[.agg #[.pointer (some ⟨7,162,none⟩),.pointer (some a),.int .u64 150]]).run prog W=.ok (.bool false) W:=by
 rw[rlm];simp only[Sem.run_bind,pp,Result.andThen];simp[ReflectliteValue.isNil,loadVar,isAgg,underlying,underlying162,ha,Result.andThen]
def kz(w:aB):(ReflectliteType.method ReflectliteType.elem #[.agg #[.pointer (some ⟨7,162,none⟩)]]).run prog w=.ok (.iface 275 (.agg #[.pointer (some ⟨7,132,none⟩)])) w:=aW
def We(w:aB):(ReflectliteType.relation "Implements" ReflectliteType.implements_ #[.agg #[.pointer (some ⟨7,132,none⟩)],.iface 275 (.agg #[.pointer (some ⟨7,34,none⟩)])]).run prog w=.ok (.bool true) w:=aW
def c2Q(v:aX)(w:aB):(ReflectliteType.typeOf #[.iface 132 v]).run prog w=.ok (.iface 275 (.agg #[.pointer (some ⟨7,132,none⟩)])) w:=aW
def b3K(w:aB):(ReflectliteType.relation "AssignableTo" ReflectliteType.assignableTo #[.agg #[.pointer (some ⟨7,132,none⟩)],.iface 275 (.agg #[.pointer (some ⟨7,132,none⟩)])]).run prog w=.ok (.bool true) w:=aW
def b9H(e:Addr)(w:aB):(ReflectliteValue.unpack (.iface 132 (.pointer (some e)))).run prog w
 = .ok (.agg #[.pointer (some ⟨7,132,none⟩),.pointer (some w),.int .u64 150]) (w.alloc (.cells #[.pointer (some e)] 132)):=aW
def c2R(w:aB):(Rtype.elem? 162).run prog w=.ok (some 132) w:=aW
def d0c(p:Addr)(w:aB):(ReflectliteValue.mk 132 p ReflectliteValue.flagAddr).run prog w=.ok (.agg #[.pointer (some ⟨7,132,none⟩),.pointer (some p),.int .u64 406]) w:=aW
def c7V(a p:Addr)(W:aB)(ha:W.cell? a=some (.pointer (some p))):
 (ReflectliteValue.method (ReflectliteValue.valueError "reflectlite.Value.Elem" 0) ReflectliteValue.elem #[.agg #[.pointer (some ⟨7,162,none⟩),.pointer (some a),.int .u64 150]]).run prog W
  = .ok (.agg #[.pointer (some ⟨7,132,none⟩),.pointer (some p),.int .u64 406]) W:=by
 rw[rlm];simp only[Sem.run_bind,pp,Result.andThen];simp[ReflectliteValue.elem,loadVar,isAgg,underlying,underlying162,ha,Result.andThen,c2R,d0c]
def c2S(a:Addr)(w:aB):(ReflectliteValue.parts (.agg #[.pointer (some ⟨7,132,none⟩),.pointer (some a),.int .u64 406])).run prog w=.ok (some (132,a,406)) w:=aW
def c6d(a:Addr)(w:aB):(ReflectliteValue.parts (.agg #[.pointer (some ⟨7,132,none⟩),.pointer (some a),.int .u64 150])).run prog w=.ok (some (132,a,150)) w:=aW
def c2T(w:aB):(Rtype.directlyAssignable 132 132).run prog w=.ok true w:=aW
def c9h(ta b:Addr)(e:Addr)(old:aX)(W:aB)(hb:W.cell? b=some (.pointer (some e)))(ht:W.cell? ta=some old)(hf:W.frozen? ta=false):
 (ReflectliteValue.set #[.agg #[.pointer (some ⟨7,132,none⟩),.pointer (some ta),.int .u64 406],.agg #[.pointer (some ⟨7,132,none⟩),.pointer (some b),.int .u64 150]]).run prog W
  = .ok (.tuple #[]) (W.setCell ta (.pointer (some e))):=by
 rw[rls];simp only[Sem.run_bind,c2S,c6d,Result.andThen];simp[ReflectliteValue.flagAddr,loadVar,isAgg,underlying,underlying132,hb,Result.andThen,c2T,storeVar,Value.cells,storeCells,Addr.add];rw[run_store prog W ta _ _ rfl];simp[ht,hf]
def b9I(t:Addr)(w:aB):(ReflectliteValue.unpack (.iface 163 (.pointer (some t)))).run prog w
 = .ok (.agg #[.pointer (some ⟨7,163,none⟩),.pointer (some w),.int .u64 150]) (w.alloc (.cells #[.pointer (some t)] 163)):=aW
def c7W(a:Addr)(w:aB):(ReflectliteValue.methodAny (ReflectliteValue.valueError "reflectlite.Value.Type" 0) (λt _ _ _=>ReflectliteType.toType t) #[.agg #[.pointer (some ⟨7,163,none⟩),.pointer (some a),.int .u64 150]]).run prog w
 = .ok (.iface 275 (.agg #[.pointer (some ⟨7,163,none⟩)])) w:=aW
def c7X(w:aB):((ReflectliteType.abiMethod λt=>Functor.map (λa:Nat=>Value.int IntKind.u8 (a:Int)) (Rtype.kind t)) #[.pointer (some ⟨7,163,none⟩)]).run prog w=.ok (.int .u8 22) w:=aW
def c7Y(w:aB):((ReflectliteType.abiMethod λt=>Functor.map (λa:Nat=>Value.int IntKind.u8 (a:Int)) (Rtype.kind t)) #[.pointer (some ⟨7,37,none⟩)]).run prog w=.ok (.int .u8 2) w:=aW
def pn(a:Addr)(w:aB):(ReflectliteValue.parts (.agg #[.pointer (some ⟨7,163,none⟩),.pointer (some a),.int .u64 150])).run prog w=.ok (some (163,a,150)) w:=aW
def c6e(a p:Addr)(W:aB)(ha:W.cell? a=some (.pointer (some p))):
 (ReflectliteValue.method (ReflectliteValue.valueError "reflectlite.Value.IsNil" 0) ReflectliteValue.isNil #[.agg #[.pointer (some ⟨7,163,none⟩),.pointer (some a),.int .u64 150]]).run prog W=.ok (.bool false) W:=by
 rw[rlm];simp only[Sem.run_bind,pn,Result.andThen];simp[ReflectliteValue.isNil,loadVar,isAgg,underlying,underlying163,ha,Result.andThen]
def c7Z(w:aB):(ReflectliteType.method ReflectliteType.elem #[.agg #[.pointer (some ⟨7,163,none⟩)]]).run prog w=.ok (.iface 275 (.agg #[.pointer (some ⟨7,37,none⟩)])) w:=aW
def b3L(w:aB):(ReflectliteType.relation "Implements" ReflectliteType.implements_ #[.agg #[.pointer (some ⟨7,37,none⟩)],.iface 275 (.agg #[.pointer (some ⟨7,34,none⟩)])]).run prog w=.ok (.bool true) w:=aW
def aD(v:aX)(w:aB):(ReflectliteType.typeOf #[.iface 37 v]).run prog w=.ok (.iface 275 (.agg #[.pointer (some ⟨7,37,none⟩)])) w:=aW
def b3M(w:aB):(ReflectliteType.relation "AssignableTo" ReflectliteType.assignableTo #[.agg #[.pointer (some ⟨7,37,none⟩)],.iface 275 (.agg #[.pointer (some ⟨7,37,none⟩)])]).run prog w=.ok (.bool true) w:=aW
def b9J(n:Int)(w:aB):(ReflectliteValue.unpack (.iface 37 (.int .i64 n))).run prog w
 = .ok (.agg #[.pointer (some ⟨7,37,none⟩),.pointer (some w),.int .u64 130]) (w.alloc (.cells #[.int .i64 n] 37)):=aW
def c2V(w:aB):(Rtype.elem? 163).run prog w=.ok (some 37) w:=aW
def d0d(p:Addr)(w:aB):(ReflectliteValue.mk 37 p ReflectliteValue.flagAddr).run prog w=.ok (.agg #[.pointer (some ⟨7,37,none⟩),.pointer (some p),.int .u64 386]) w:=aW
def c71(a p:Addr)(W:aB)(ha:W.cell? a=some (.pointer (some p))):
 (ReflectliteValue.method (ReflectliteValue.valueError "reflectlite.Value.Elem" 0) ReflectliteValue.elem #[.agg #[.pointer (some ⟨7,163,none⟩),.pointer (some a),.int .u64 150]]).run prog W
  = .ok (.agg #[.pointer (some ⟨7,37,none⟩),.pointer (some p),.int .u64 386]) W:=by
 rw[rlm];simp only[Sem.run_bind,pn,Result.andThen];simp[ReflectliteValue.elem,loadVar,isAgg,underlying,underlying163,ha,Result.andThen,c2V,d0d]
def c2W(a:Addr)(w:aB):(ReflectliteValue.parts (.agg #[.pointer (some ⟨7,37,none⟩),.pointer (some a),.int .u64 386])).run prog w=.ok (some (37,a,386)) w:=aW
def c6f(a:Addr)(w:aB):(ReflectliteValue.parts (.agg #[.pointer (some ⟨7,37,none⟩),.pointer (some a),.int .u64 130])).run prog w=.ok (some (37,a,130)) w:=aW
def c2X(w:aB):(Rtype.directlyAssignable 37 37).run prog w=.ok true w:=aW
def c9i(ta b:Addr)(n:Int)(old:aX)(W:aB)(hb:W.cell? b=some (.int .i64 n))(ht:W.cell? ta=some old)(hf:W.frozen? ta=false):
 (ReflectliteValue.set #[.agg #[.pointer (some ⟨7,37,none⟩),.pointer (some ta),.int .u64 386],.agg #[.pointer (some ⟨7,37,none⟩),.pointer (some b),.int .u64 130]]).run prog W
  = .ok (.tuple #[]) (W.setCell ta (.int .i64 n)):=by
 rw[rls];simp only[Sem.run_bind,c2W,c6f,Result.andThen];simp[ReflectliteValue.flagAddr,loadVar,isAgg,underlying,underlying37,hb,Result.andThen,c2X,storeVar,Value.cells,storeCells,Addr.add];rw[run_store prog W ta _ _ rfl];simp[ht,hf]
def b3N(w:aB):(ReflectliteType.relation "AssignableTo" ReflectliteType.assignableTo #[.agg #[.pointer (some ⟨7,37,none⟩)],.iface 275 (.agg #[.pointer (some ⟨7,132,none⟩)])]).run prog w=.ok (.bool false) w:=aW
def c6g(e:Addr)(t:Addr)(old:Value)(w:World)(hg:w.cell? ⟨0,0,none⟩=some (.iface 275 (.agg #[.pointer (some ⟨7,34,none⟩)])))(ht0:w.cell? t=some old)(hf0:w.frozen? t=false):
 Calls prog 65 #[.iface 132 (.pointer (some e)),.iface 162 (.pointer (some t))] w λev w'=>ev=.returned (.bool true)/\w'=((((w.alloc (.cells #[.pointer (some t)] 162)).alloc (.cells #[.pointer (some ⟨7,162,none⟩),.pointer (some ⟨w.heap.size,0,none⟩),.int .u64 150] 228)).alloc (.cells #[.pointer (some ⟨7,162,none⟩),.pointer (some ⟨w.heap.size,0,none⟩),.int .u64 150] 228)).alloc (.cells #[.pointer (some e)] 132)).setCell t (.pointer (some e)):=by
 have h1:=@run_callFunc_extern prog 119 _ (λargs=>ReflectliteValue.unpack (args.getD 0 (.tuple #[]))) func119 aW aW aW aW;have h2:=@run_callFunc_extern prog 120 _ (ReflectliteValue.methodAny (ReflectliteValue.valueError "reflectlite.Value.Type" 0) (λt _ _ _=>ReflectliteType.toType t)) func120 aW aW aW aW;have h3:=@run_callFunc_extern prog 121 _ (ReflectliteValue.method (ReflectliteValue.valueError "reflectlite.Value.IsNil" 0) ReflectliteValue.isNil) func121 aW aW aW aW;have h4:=@run_callFunc_extern prog 248 _ (ReflectliteType.abiMethod λt=>do pure (.int .u8 (<-Rtype.kind t))) func248 aW aW aW aW;have h5:=@run_callFunc_extern prog 261 _ (ReflectliteType.method ReflectliteType.elem) func261 aW aW aW aW;have h6:=@run_callFunc_extern prog 262 _ (ReflectliteType.relation "Implements" ReflectliteType.implements_) func262 aW aW aW aW;have h7:=@run_callFunc_extern prog 97 _ ReflectliteType.typeOf func97 aW aW aW aW;have h8:=@run_callFunc_extern prog 259 _ (ReflectliteType.relation "AssignableTo" ReflectliteType.assignableTo) func259 aW aW aW aW;have h9:=@run_callFunc_extern prog 162 _ (ReflectliteValue.method (ReflectliteValue.valueError "reflectlite.Value.Elem" 0) ReflectliteValue.elem) func162 aW aW aW aW;have h10:=@run_callFunc_extern prog 163 _ ReflectliteValue.set func163 aW aW aW aW;have tO:=c2Q;have mA:=methodAssignableTo;have a25:=b3K;have v25:=b9H;have f6:=A4;have f7:=lj;have mK:=methodKind;have mE:=methodElem;have mI:=methodImplements;have k27:=li;have k25:=lh;have e27:=kz;have i25:=We;have n8:=po ⟨w.heap.size,0,none⟩ t ((w.alloc (.cells #[.pointer (some t)] 162)).alloc (.cells #[.pointer (some ⟨7,162,none⟩),.pointer (some ⟨w.heap.size,0,none⟩),.int .u64 150] 228)) aZ;have hlt:=World.block_lt_of_cell? w _ hg;have hg2:((w.alloc (.cells #[.pointer (some t)] 162)).alloc (.cells #[.pointer (some ⟨7,162,none⟩),.pointer (some ⟨w.heap.size,0,none⟩),.int .u64 150] 228)).cell? ⟨0,0,none⟩=some (.iface 275 (.agg #[.pointer (some ⟨7,34,none⟩)])):=by rw[World.cell?_alloc_lt _ _ ⟨0,0,none⟩ aZ,World.cell?_alloc_lt _ _ ⟨0,0,none⟩ hlt];exact hg
 have htl:=World.block_lt_of_cell? w _ ht0;have el:=c7V ⟨w.heap.size,0,none⟩ t (((w.alloc (.cells #[.pointer (some t)] 162)).alloc (.cells #[.pointer (some ⟨7,162,none⟩),.pointer (some ⟨w.heap.size,0,none⟩),.int .u64 150] 228)).alloc (.cells #[.pointer (some ⟨7,162,none⟩),.pointer (some ⟨w.heap.size,0,none⟩),.int .u64 150] 228)) (by rw[World.cell?_alloc_lt _ _ ⟨w.heap.size,0,none⟩ iw];simp);have st:=c9h t ⟨w.heap.size+1+1+1,0,none⟩ e old ((((w.alloc (.cells #[.pointer (some t)] 162)).alloc (.cells #[.pointer (some ⟨7,162,none⟩),.pointer (some ⟨w.heap.size,0,none⟩),.int .u64 150] 228)).alloc (.cells #[.pointer (some ⟨7,162,none⟩),.pointer (some ⟨w.heap.size,0,none⟩),.int .u64 150] 228)).alloc (.cells #[.pointer (some e)] 132))
  (by rw[World.cell?_alloc_at _ _ _ _ aZ];rfl)
  (by rw[World.cell?_alloc_lt _ _ t iw,World.cell?_alloc_lt _ _ t iw,World.cell?_alloc_lt _ _ t iw,World.cell?_alloc_lt _ _ t htl];exact ht0)
  (by rw[World.frozen?_alloc_old _ _ t iw,World.frozen?_alloc_old _ _ t iw,World.frozen?_alloc_old _ _ t iw,World.frozen?_alloc_old _ _ t (Nat.ne_of_lt htl)];exact hf0)
 go_enter func65,ntmps65
 go_wp2;refine wp_loop_rounds 1 ?_;rw[rounds_succ];go_wp2;go_ret;exact⟨rfl,rfl⟩
def c6h(n:Int)(t:Addr)(old:Value)(w:World)(hg:w.cell? ⟨0,0,none⟩=some (.iface 275 (.agg #[.pointer (some ⟨7,34,none⟩)])))(ht0:w.cell? t=some old)(hf0:w.frozen? t=false):
 Calls prog 65 #[.iface 37 (.int .i64 n),.iface 163 (.pointer (some t))] w λev w'=>ev=.returned (.bool true)/\w'=((((w.alloc (.cells #[.pointer (some t)] 163)).alloc (.cells #[.pointer (some ⟨7,163,none⟩),.pointer (some ⟨w.heap.size,0,none⟩),.int .u64 150] 228)).alloc (.cells #[.pointer (some ⟨7,163,none⟩),.pointer (some ⟨w.heap.size,0,none⟩),.int .u64 150] 228)).alloc (.cells #[.int .i64 n] 37)).setCell t (.int .i64 n):=by
 have h1:=@run_callFunc_extern prog 119 _ (λargs=>ReflectliteValue.unpack (args.getD 0 (.tuple #[]))) func119 aW aW aW aW;have h2:=@run_callFunc_extern prog 120 _ (ReflectliteValue.methodAny (ReflectliteValue.valueError "reflectlite.Value.Type" 0) (λt _ _ _=>ReflectliteType.toType t)) func120 aW aW aW aW;have h3:=@run_callFunc_extern prog 121 _ (ReflectliteValue.method (ReflectliteValue.valueError "reflectlite.Value.IsNil" 0) ReflectliteValue.isNil) func121 aW aW aW aW;have h4:=@run_callFunc_extern prog 248 _ (ReflectliteType.abiMethod λt=>do pure (.int .u8 (<-Rtype.kind t))) func248 aW aW aW aW;have h5:=@run_callFunc_extern prog 261 _ (ReflectliteType.method ReflectliteType.elem) func261 aW aW aW aW;have h6:=@run_callFunc_extern prog 262 _ (ReflectliteType.relation "Implements" ReflectliteType.implements_) func262 aW aW aW aW;have h7:=@run_callFunc_extern prog 97 _ ReflectliteType.typeOf func97 aW aW aW aW;have h8:=@run_callFunc_extern prog 259 _ (ReflectliteType.relation "AssignableTo" ReflectliteType.assignableTo) func259 aW aW aW aW;have h9:=@run_callFunc_extern prog 162 _ (ReflectliteValue.method (ReflectliteValue.valueError "reflectlite.Value.Elem" 0) ReflectliteValue.elem) func162 aW aW aW aW;have h10:=@run_callFunc_extern prog 163 _ ReflectliteValue.set func163 aW aW aW aW;have tO:=aD;have mA:=methodAssignableTo;have a25:=b3M;have v25:=b9J;have f6:=b9I;have f7:=c7W;have mK:=methodKind;have mE:=methodElem;have mI:=methodImplements;have k27:=c7X;have k25:=c7Y;have e27:=c7Z;have i25:=b3L;have n8:=c6e ⟨w.heap.size,0,none⟩ t ((w.alloc (.cells #[.pointer (some t)] 163)).alloc (.cells #[.pointer (some ⟨7,163,none⟩),.pointer (some ⟨w.heap.size,0,none⟩),.int .u64 150] 228)) aZ;have hlt:=World.block_lt_of_cell? w _ hg;have hg2:((w.alloc (.cells #[.pointer (some t)] 163)).alloc (.cells #[.pointer (some ⟨7,163,none⟩),.pointer (some ⟨w.heap.size,0,none⟩),.int .u64 150] 228)).cell? ⟨0,0,none⟩=some (.iface 275 (.agg #[.pointer (some ⟨7,34,none⟩)])):=by rw[World.cell?_alloc_lt _ _ ⟨0,0,none⟩ aZ,World.cell?_alloc_lt _ _ ⟨0,0,none⟩ hlt];exact hg
 have htl:=World.block_lt_of_cell? w _ ht0;have el:=c71 ⟨w.heap.size,0,none⟩ t (((w.alloc (.cells #[.pointer (some t)] 163)).alloc (.cells #[.pointer (some ⟨7,163,none⟩),.pointer (some ⟨w.heap.size,0,none⟩),.int .u64 150] 228)).alloc (.cells #[.pointer (some ⟨7,163,none⟩),.pointer (some ⟨w.heap.size,0,none⟩),.int .u64 150] 228)) (by rw[World.cell?_alloc_lt _ _ ⟨w.heap.size,0,none⟩ iw];simp);have st:=c9i t ⟨w.heap.size+1+1+1,0,none⟩ n old ((((w.alloc (.cells #[.pointer (some t)] 163)).alloc (.cells #[.pointer (some ⟨7,163,none⟩),.pointer (some ⟨w.heap.size,0,none⟩),.int .u64 150] 228)).alloc (.cells #[.pointer (some ⟨7,163,none⟩),.pointer (some ⟨w.heap.size,0,none⟩),.int .u64 150] 228)).alloc (.cells #[.int .i64 n] 37))
  (by rw[World.cell?_alloc_at _ _ _ _ aZ];rfl)
  (by rw[World.cell?_alloc_lt _ _ t iw,World.cell?_alloc_lt _ _ t iw,World.cell?_alloc_lt _ _ t iw,World.cell?_alloc_lt _ _ t htl];exact ht0)
  (by rw[World.frozen?_alloc_old _ _ t iw,World.frozen?_alloc_old _ _ t iw,World.frozen?_alloc_old _ _ t iw,World.frozen?_alloc_old _ _ t (Nat.ne_of_lt htl)];exact hf0)
 go_enter func65,ntmps65
 go_wp2;refine wp_loop_rounds 1 ?_;rw[rounds_succ];go_wp2;go_ret;exact⟨rfl,rfl⟩
def c6i(n:Int)(t:Addr)(w:World)(hg:w.cell? ⟨0,0,none⟩=some (.iface 275 (.agg #[.pointer (some ⟨7,34,none⟩)]))):
 Calls prog 65 #[.iface 37 (.int .i64 n),.iface 162 (.pointer (some t))] w λev w'=>ev=.returned (.bool false)/\Below w.heap.size w w':=by
 have h1:=@run_callFunc_extern prog 119 _ (λargs=>ReflectliteValue.unpack (args.getD 0 (.tuple #[]))) func119 aW aW aW aW;have h2:=@run_callFunc_extern prog 120 _ (ReflectliteValue.methodAny (ReflectliteValue.valueError "reflectlite.Value.Type" 0) (λt _ _ _=>ReflectliteType.toType t)) func120 aW aW aW aW;have h3:=@run_callFunc_extern prog 121 _ (ReflectliteValue.method (ReflectliteValue.valueError "reflectlite.Value.IsNil" 0) ReflectliteValue.isNil) func121 aW aW aW aW;have h4:=@run_callFunc_extern prog 248 _ (ReflectliteType.abiMethod λt=>do pure (.int .u8 (<-Rtype.kind t))) func248 aW aW aW aW;have h5:=@run_callFunc_extern prog 261 _ (ReflectliteType.method ReflectliteType.elem) func261 aW aW aW aW;have h6:=@run_callFunc_extern prog 262 _ (ReflectliteType.relation "Implements" ReflectliteType.implements_) func262 aW aW aW aW;have h7:=@run_callFunc_extern prog 97 _ ReflectliteType.typeOf func97 aW aW aW aW;have h8:=@run_callFunc_extern prog 259 _ (ReflectliteType.relation "AssignableTo" ReflectliteType.assignableTo) func259 aW aW aW aW;have h9:=@run_callFunc_extern prog 162 _ (ReflectliteValue.method (ReflectliteValue.valueError "reflectlite.Value.Elem" 0) ReflectliteValue.elem) func162 aW aW aW aW;have h10:=@run_callFunc_extern prog 163 _ ReflectliteValue.set func163 aW aW aW aW;have tO:=aD;have mA:=methodAssignableTo;have RB:=run_typeAssert_lacksB (P:=prog) (z:=.nilIface) (t:=37) (asserted:=292) rfl aW aW;have RA:=run_typeAssert_lacksB (P:=prog) (z:=.nilIface) (t:=37) (asserted:=280) rfl aW aW;have Rr:=run_typeAssert_lacksB (P:=prog) (z:=.nilIface) (t:=37) (asserted:=281) rfl aW aW;have a25:=b3N;have f6:=A4;have f7:=lj;have mK:=methodKind;have mE:=methodElem;have mI:=methodImplements;have k27:=li;have k25:=lh;have e27:=kz;have i25:=We;have n8:=po ⟨w.heap.size,0,none⟩ t ((w.alloc (.cells #[.pointer (some t)] 162)).alloc (.cells #[.pointer (some ⟨7,162,none⟩),.pointer (some ⟨w.heap.size,0,none⟩),.int .u64 150] 228)) aZ;have hlt:=World.block_lt_of_cell? w _ hg;have hg2:((w.alloc (.cells #[.pointer (some t)] 162)).alloc (.cells #[.pointer (some ⟨7,162,none⟩),.pointer (some ⟨w.heap.size,0,none⟩),.int .u64 150] 228)).cell? ⟨0,0,none⟩=some (.iface 275 (.agg #[.pointer (some ⟨7,34,none⟩)])):=by rw[World.cell?_alloc_lt _ _ ⟨0,0,none⟩ aZ,World.cell?_alloc_lt _ _ ⟨0,0,none⟩ hlt];exact hg
 go_enter func65,ntmps65
 go_wp2;refine wp_loop_rounds 1 ?_;rw[rounds_succ];go_wp2;go_ret;exact⟨rfl,(((dh w).new _).new _).new _⟩
def Ext.trans'{a b c:aB}(h:Ext a b)(k:Below B b c)(d:a.heap.size<=B:=by first|exact ak _|omega|(have:=Below.size kT;simp at *;omega)):Ext a c:=Below.trans h<|k.mono d
def Laid(w:World):Prop:=w.cell? ⟨0,0,none⟩=some (.iface 275 (.agg #[.pointer (some ⟨7,34,none⟩)]))
def Laid.ext{w w':aB}(h:Laid w)(a:Ext w w'):Laid w':=a.cell h
def ei(t:Addr)(v:aX)(w:aB)(e:Ending)(w':aB):Prop:=e=.returned (.bool true)/\w'.cell? t=some v/\Below t.block w w'
def fp{t:Addr}{old:aX}{a:aB}(b:w.cell? t=some old)(h:Ext w a):(a.setCell t v).cell? t=some v/\Below t.block w (a.setCell t v):=
 ⟨World.cell?_setCell_same a t v<|h.cell b,(h.mono (Nat.le_of_lt<|World.block_lt_of_cell? w t b)).setCell (ak _) _⟩
def c5b(n:Int)(t:Addr)(old:Value)(w:World)(h:Laid w)(a:w.cell? t=some old)(b:w.frozen? t=false):
 Calls prog 65 #[.iface 37 (.int .i64 n),.iface 163 (.pointer (some t))] w (ei t (.int .i64 n) w):=by
 apply(c6h n t _ w h a b).mono;rintro e c ⟨rfl,rfl⟩;exact⟨rfl,fp a<|(((dh w).new _).new _).new _ |>.new _⟩
def c5c(a:Addr)(t:Addr)(old:Value)(w:World)(h:Laid w)(b:w.cell? t=some old)(c:w.frozen? t=false):
 Calls prog 65 #[.iface 132 (.pointer (some a)),.iface 162 (.pointer (some t))] w (ei t (.pointer (some a)) w):=by
 apply(c6g a t _ w h b c).mono;rintro e d ⟨rfl,rfl⟩;exact⟨rfl,fp b<|(((dh w).new _).new _).new _ |>.new _⟩
def uR(w:aB):
 Calls prog 15 #[.nilIface] w λe w'=>e=.returned (.tuple #[.int .i64 0,.string ⟨#[]⟩])/\Ext w w':=by
 go_wp2;go_ret2
 exact⟨rfl,((dh w).new _).new _⟩
def c5d(n:Int)(w:World)(h:Laid w):
 Calls prog 15 #[.iface 37 (.int .i64 n)] w λe w'=>e=.returned (.tuple #[.int .i64 n,.string ⟨#[]⟩])/\Ext w w':=by
 go_enter func15,ntmps15
 go_wp2_with fail
 refine(c6i n _ _ (Laid.ext h (((dh w).new _).new _))).mono ?_;rintro e d ⟨rfl,a⟩;have b:Ext w d:=(((dh w).new _).new (.cells _ 132)).trans a;go_wp2_with fail
 refine(c5b n _ (.int .i64 0) _ (Laid.ext h b) ((Below.cell a iw).trans aZ) ((Below.frozen a iw).trans aZ)).mono ?_;rintro e l ⟨rfl,k,c⟩;go_wp2_with fail
 go_ret2
 exact⟨rfl,b.trans' c⟩
def c1z(a:Addr)(name:ByteArray)(n:Int)(w:aB)(h:Laid w)(j:w.cell? a=some (.string name))(h1:w.cell? ⟨a.block,a.off+1,none⟩=some (.int .i64 n)):
 Calls prog 15 #[.iface 132 (.pointer (some a))] w λe w'=>e=.returned (.tuple #[.int .i64 n,.string name])/\Ext w w':=by
 go_enter func15,ntmps15
 go_wp2_with fail
 refine(c5c a (w+1:Nat) (.pointer none) _ (Laid.ext h<|((dh w).new _).new _) aZ<|aZ).mono ?_;rintro e i ⟨rfl,l,d⟩;have c:Below (w+1) _ i:=d;have b:Ext w i:=Below.trans (((dh w).new<|.cells #[.int .i64 0] 37).new<|.cells #[.pointer none] 132) (c.mono<|aj);have m:=b.cell j;have k:=b.cell h1;clear j h1;go_wp2;go_quiet (fail)
 go_wp2;go_ret2
 exact⟨rfl,b.trans<|gZ _ _⟩
def L_{x y:Int}(b:x=c)(e:y=d)(f:c<4294967296)(a:d<4294967296):
 bits BinOp.xor IntKind.u32 x y=((c ^^^ d:Nat):Int):=by
 rw[b,e];exact u32_xor_nat c d f a
def c47(c:D<4294967296):
 bits BinOp.xor IntKind.u32 ((D:Int)/2) (bits BinOp.and IntKind.u32 (D:Int) 1*3988292384%4294967296)=(zl D:Int):=by
 have d:bits BinOp.and IntKind.u32 D 1=((D%2:Nat)):=by have:=u32_and_nat D 1 c aj;simp_all
 rw[d];unfold zl;by_cases b:D%2=1
 rw[if_pos b,b];exact L_ rfl rfl aj<|aj
 rw[if_neg b,show D%2=0 by omega];exact L_ rfl rfl aj<|aj
def c60(a:D<4294967296)(h:D%2=1):bits BinOp.xor IntKind.u32 ((D:Int)/2) 3988292384=(zl D:Int):=by unfold zl;rw[if_pos h];exact L_ rfl rfl aj<|aj
def c48(h:¬D%2=1):(D:Int)/2=(zl D:Int):=by unfold zl;grind
def sum_any(v:aX)(l:dV)(w:aB)(h:Bytes w v l):
 Calls prog 128 #[v] w λe w'=>e=.returned (.int .u32 (crc l))/\w=w':=by
 obtain⟨a,u,rfl,y,s,d⟩:=h.open;go_enter func128,ntmps128
 go_wp2;go_loop [3,8] (λc i=>∃k:Nat,k<=l.length/\i=.int .i64 k/\c=.int .u32 (Z9 4294967295 (l.take k))) (λ_ i=>l.length - (intOf i).toNat)
 case atStart=>exact⟨0,dD _,rfl,rfl⟩
 case round=>
  obtain⟨k,A,rfl,rfl⟩:=hrel;by_cases f:k<l.length
  ·obtain⟨b,rfl,E⟩:=d k f;have hs:Hid (Z9 4294967295 (l.take (k+1))=GY (Z9 4294967295 (l.take k)) l[k]):=by
    have e:Z9 4294967295 (l.take (k+1))=GY (Z9 4294967295 (l.take k)) l[k]:=by rw[take_snoc l k f,Tu]
    exact e
   have hC:=Xi (l.take k) (c:=4294967295) aj;clear d;generalize Z9 4294967295 (l.take k)=C at *;have z:=LQ l[k];generalize l[k]=x at *;go_wp2;go_loop [3,16] (λc i=>∃j:Nat,j<=8/\i=.int .i64 j/\c=.int .u32 (w_ j (C ^^^ x.toNat))) (λ_ i=>8 - (intOf i).toNat)
   case atStart=>exact⟨0,aj,rfl,congrArg (Value.int .u32) (L_ rfl aj hC aj)⟩
   case round=>
    obtain⟨j,B,rfl,rfl⟩:=hrel;have m:8=j->GY C x=w_ j (C ^^^ x.toNat):=by rintro rfl;rfl
    have r:=C7 j (WB hC (b:=x.toNat) aj);have hn:Hid (w_ (j+1) (C ^^^ x.toNat)=zl (w_ j (C ^^^ x.toNat))):=TC j _;generalize w_ j (C ^^^ x.toNat)=D at *;by_cases t:j<8
    go_wp2;go_round
    case rel=>refine⟨j+1,aj,iE,?_⟩;rw[hn.out,c47 r]
    case measure=>simp[intOf];omega
    go_wp2;go_round
    case rel=>exact⟨k+1,aj,iE,by rw[hs.out];rw[m aj]⟩
    case measure=>simp[intOf];omega
  go_wp2;go_ret;obtain rfl:k=l.length:=aj
  refine⟨?_,rfl⟩;rw[bK,show IntKind.u32.max=((4294967295:Nat):Int) from rfl,L_ rfl rfl aj (Xi l aj),Nat.xor_comm];rfl
def Xh(v:aX)(l:dV)(w:aB)(h:Bytes w v l):
 Calls prog 76 #[v] w λe w'=>e=.returned (.int .u32 (crc l))/\w=w':=by
 obtain⟨a,z,rfl,G,t,d⟩:=h.open;go_enter func76,ntmps76
 go_wp2;go_loop [3,4] (λc i=>∃k:Nat,k<=l.length/\i=.int .i64 k/\c=.int .u32 (Z9 4294967295 (l.take k))) (λ_ i=>l.length - (intOf i).toNat)
 case atStart=>exact⟨0,dD _,rfl,rfl⟩
 case round=>
  obtain⟨k,E,rfl,rfl⟩:=hrel;by_cases g:k<l.length
  ·obtain⟨b,rfl,B⟩:=d k g;have hs:Hid (Z9 4294967295 (l.take (k+1))=GY (Z9 4294967295 (l.take k)) l[k]):=by
    have e:Z9 4294967295 (l.take (k+1))=GY (Z9 4294967295 (l.take k)) l[k]:=by rw[take_snoc l k g,Tu]
    exact e
   have hC:=Xi (l.take k) (c:=4294967295) aj;clear d;generalize Z9 4294967295 (l.take k)=C at *;have A:=LQ l[k];generalize l[k]=x at *;go_wp2;go_loop [3,5,6] (λc i _=>∃j:Nat,j<=8/\i=.int .i64 j/\c=.int .u32 (w_ j (C ^^^ x.toNat))) (λ_ i _=>8 - (intOf i).toNat)
   case atStart=>exact⟨0,aj,rfl,congrArg (Value.int .u32) (L_ rfl aj hC aj)⟩
   case round=>
    obtain⟨j,F,rfl,rfl⟩:=hrel;have m:8=j->GY C x=w_ j (C ^^^ x.toNat):=by rintro rfl;rfl
    have hD:=C7 j (WB hC (b:=x.toNat) aj);have y:Hid (w_ (j+1) (C ^^^ x.toNat)=zl (w_ j (C ^^^ x.toNat))):=TC j _;generalize w_ j (C ^^^ x.toNat)=D at *;by_cases u:j<8
    ·by_cases f:D%2=1;all_goals
      have s:(((D:Int)%2==1)=decide (D%2=1)):=by rw[rE];simp;omega
      simp only[f,decide_true,decide_false] at s;go_wp2;go_round
      case rel=>refine⟨j+1,aj,iE,?_⟩;rw[y.out];first|rw[c60 hD f]|rw[<-c48 f]
      case measure=>simp[intOf];omega
    ·go_wp2;go_round
     case rel=>exact⟨k+1,aj,iE,by rw[hs.out];rw[m aj]⟩
     case measure=>simp[intOf];omega
  ·go_wp2;go_ret;obtain rfl:k=l.length:=aj
   refine⟨?_,rfl⟩;show Ending.returned (Value.int .u32 _)=_;rw[bK,show(4294967295:Int)=((4294967295:Nat):Int) from rfl,L_ rfl rfl (Xi l aj) aj];rfl
def Dx(w:aB)(B b:Nat)(l:dV):Prop:=
 ∃v,w.heap[b]?=some (.cells #[v] 309 (0,0))/\B<=b/\OwnB w B v l
def Do{wr w1:aB}{v':aX}(hb:Below B w wr)(h0:wr.heap[b]?=some (.cells #[v] 309 (0,0)))(hB:B<=b)(hown:OwnB wr B v l)
 {xs:jl}{w0:aB}(hb0:Below wr wr w0)(hgrow:w0.grownBy w1 v.ownBlock)(hown1:w1.ownsRow B 5 1 v' n xs){l':dV}(hn:n=l'.length)(hx:xs=l'.map eG):
 w1.heap[b]?=some (.cells #[v] 309 (0,0))/\Dx (w1.setCell b v') B b l'/\Below B w (w1.setCell b v'):=by
 subst hn;subst hx;have hlt:=lt_of_block h0;have h1:w1.heap[b]?=some (.cells #[v] 309 (0,0)):=by rw[hgrow.block b (aF hlt hb0.size) (dI (ownsRow_ne hown h0 dA)),hb0.block b hlt];exact h0
 refine⟨h1,⟨_,one_setCell h1,hB,?_⟩,?_⟩
 ·exact ownsRow_setCell_other hown1 (ownsRow_ne hown1 h1 dA) _
 ·exact((hb.trans (hb0.mono aj)).grown hgrow (by have:=hb0.size;omega) (λk hk=>(hown.lt k hk).1)).setCell hB _
def P7(b B:Nat)(l:dV)(n k:Nat)(w:aB)(h:Dx w B b l)(hk:k<=8)(hl:l.length<=1000000):
 Calls prog 172 #[.pointer (some b),.int .u64 n,.int .i64 k] w λe w'=>e=.returned (.tuple #[])/\Dx w' B b (l++be n k)/\Below B w w':=by
 obtain⟨i0,hi,hz0,hz1,hz2⟩:=info_parts Dq;go_enter func172,ntmps172
 go_wp2;go_loopw [2] (λc wr=>∃j:Nat,j<=k/\c=.int .i64 j/\(∃l',l'++be n j=l++be n k/\Dx wr B b l')/\Below B w wr) (λc _=>(intOf c).toNat)
 case atStart=>exact⟨k,ak _,rfl,⟨l,rfl,h⟩,Below.refl _ _⟩
 case round=>
  obtain⟨j,hj,rfl,⟨l',hl',v,hw,TR,hown⟩,hb⟩:=hrel;by_cases hj0:0<j
  ·obtain⟨j,rfl⟩:∃i,j=i+1:=⟨j - 1,aj⟩;have hw1:IntKind.i64.wrap (8*(j:Int))=8*(j:Int):=IntWalk.i64_in _ aj;have hw2:(0:Int)<=8*(j:Int):=aj
   have hlt:=lt_of_block hw;have hp:=cell_of_one hw;have hf:=free_of_one hw;have hlen:l'.length<=1000008:=by have:=congrArg List.length hl';simp only[aC,H7] at this;omega
   have HW:=ah hw;clear hw;go_wp2;go_region_law (first|(refine step_append_lies _ rfl _ _ _ rfl B 5 i0 _ 1 1 underlying25 hi hz0 hz1 hz2 rfl aj v l'.length (l'.map eG) rfl ((hown.alloc _).drew) wr 1 1 [_] rfl rfl (World.news_of_block (cs:=#[_]) (t:=5) (fr:=(0,0)) (heap_alloc_new wr _)) qV aj lJ aj iw (wr+1) aZ ?_;intro gg cap w1 hown1 hgrow hat hlt1;have HST:=ah (Do (l':=l'++[UInt8.ofNat (n/256^j)]) hb HW.out TR hown (Below.drew (Below.alloc (Below.refl _ _) (ak _) _)) hgrow hown1 aZ (by rw[aY,List.map_singleton,eG,<-nl,IntKind.wrap_u8]));have hc1:=cell_of_one HST.out.1;have hf1:=free_of_one HST.out.1))
   all_goals
    go_wp2;go_roundw
    case rel=>exact⟨j,aj,iE,⟨_,by rw[iM];exact hl',HST.out.2.1⟩,HST.out.2.2⟩
    case measure=>simp[intOf]
  ·obtain rfl:j=0:=aj
   go_wp2;go_end0
   exact⟨rfl,by simp only[be,dX] at hl';subst hl';exact⟨v,hw,TR,hown⟩,hb⟩
def ZT(b B:Nat)(l:dV)(s:ByteArray)(w:aB)(h:Dx w B b l)(hl:l.length+s.size<=1000000):
 Calls prog 201 #[.pointer (some b),.string s] w λe w'=>e=.returned (.tuple #[])/\Dx w' B b (l++s.data.toList)/\Below B w w':=by
 obtain⟨i0,hi,hz0,hz1,hz2⟩:=info_parts Dq;obtain⟨v,hw,TR,hown⟩:=h;have hlt:=lt_of_block hw;have hp:=cell_of_one hw;have hf:=free_of_one hw;have HW:=ah hw;clear hw;go_enter func201,ntmps201
 go_wp2_with (at_builtin;go_must (refine wpList_append_own_string _ rfl _ _ 25 9 rfl B 5 i0 underlying25 underlying9 hi hz0 hz1 hz2 v l.length (l.map eG) rfl hown s rfl lJ aj aj ?_);intro v' w1 hown1 hgrow hxx;clear hxx;obtain⟨a',c',hv'⟩:=ownsRow_form hown1;subst hv';have HST:=ah (Do (l':=l++s.data.toList) (Below.refl B _) HW.out TR hown (Below.refl _ _) hgrow hown1 (by rw[aC];rfl) (by rw[Xs,aY]));have hc1:=cell_of_one HST.out.1;have hf1:=free_of_one HST.out.1)
 go_end0
 exact⟨rfl,HST.out.2.1,HST.out.2.2⟩
def fe(B:Nat)(l:dV)(w:aB)(e:Ending)(w':aB):Prop:=∃v,e=.returned v/\OwnB w' B v l/\Below B w w'
def c7b:(prog.info? 5).map (·.size)=some 1:=aW
def C4(b B:Nat)(l:dV)(w:aB)(h:Dx w B b l)(h4:4<=l.length)(hl:l.length<=1000000):
 Calls prog 173 #[.pointer (some b)] w (fe B (be (crc (l.drop 4)) 4++l.drop 4) w):=by
 obtain⟨v,hw,TR,hown⟩:=h;have hlt:=lt_of_block hw;have hp:=cell_of_one hw;have HW:=ah hw;clear hw;obtain⟨g,cap,rfl,hBg,qc8⟩:=World.ownsRow.form hown aj;have ht:=OwnB.tail hown h4 aj;have hE:∀o,Ext w (w.alloc o):=λo=>Below.alloc (Below.refl _ _) (ak _) o;by_cases hcap:cap=4;all_goals
  first|(have hbt:=ht.2 hcap;subst hcap)|have hbt:=ht.1 hcap
  clear ht;go_enter func173,ntmps173
  go_wp2_with fail
  refine(sum_any _ (l.drop 4) _ (Bytes.ext (hE _) hbt)).mono ?_;rintro e w1 ⟨rfl,rfl⟩;go_wp2_with fail
  rw[show IntKind.u64.wrap ((crc (l.drop 4):Nat):Int)=((crc (l.drop 4):Nat):Int) from by rw[IntKind.wrap_u64];have:=Ep (l.drop 4);omega];refine(P7 w w [] (crc (l.drop 4)) 4 (w.alloc (.cells #[.slice none 0 0] 309)) ⟨_,heap_alloc_new w _,ak _,World.ownsRow_nil _ _ _ _⟩ aj aZ).mono ?_;rintro e w2 ⟨rfl,⟨v2,hv2,hB2,hown2⟩,hb2⟩;rw[eF] at hown2;generalize hC:be (crc (l.drop 4)) 4=C at *;have zU:C.length=4:=by rw[<-hC,H7]
  have HC:=ah hC;clear hC;have Ij:=ah zU;clear zU;have hE2:Ext w w2:=Below.trans (hE _) hb2;have hp2:=hE2.cell hp;have hf2:=cell_of_one hv2;have ho2:=ownsRow_below hown hE2;obtain⟨a2,cap2,rfl⟩:=ownsRow_form hown2;clear hv2;have hs2:Hid (w.heap.size<w2):=by have:=hb2.size;simp at this;exact this
  go_wp2_with fail
  have hsrc:Hid (C.map eG≠[]->∃ad,a2=some ad/\Aq w2.drew ad (C.map eG)):=OwnB.cells hown2;go_region_law (first|(refine b0G rfl (.tmp 16) (.tmp 18) 25 25 rfl B 5 underlying25 c7b _ l.length (l.map eG) rfl (ho2.drew) a2 C.length cap2 rfl (C.map eG) (by rw[bV,Ij.out];exact(jS h4).symm) hsrc.out (Dv C) ?_;intro w3 hown3 hgrow))
  all_goals
   have hp3:w3.cell? b=some _:=(hgrow.cell_far b (show b<w2 from aF hlt hE2.size) (dI (ownsRow_ne hown HW.out dA))).trans hp2;go_wp2;go_ret;refine⟨_,rfl,?_,?_⟩
   ·unfold OwnB;have e:(C.map eG++(l.map eG).drop (C.map eG).length)=(C++l.drop 4).map eG:=by rw[bV,Ij.out,aY,List.map_drop]
    have e2:(C++l.drop 4).length=l.length:=by rw[aC,fG,Ij.out];omega
    rw[e] at hown3;rw[e2];exact hown3
   ·exact(Below.drew (hE2.mono aj)).grown hgrow (by have:=hs2.out;show B<=w2;omega) (λk hk=>(hown.lt k hk).1)
def PI(seq:Nat)(k v:ByteArray)(d:Bool):Value:=.agg #[.int .u64 seq,.string k,.string v,.bool d]
def lK(n:Int):Value:=.iface 37 (.int .i64 n)
def c3v(l:dV)(w:aB)(e:Ending)(w':aB):Prop:=∃v,e=.returned (.tuple #[v,.nilIface])/\OwnB w' w v l/\Ext w w'
def o6(w:aB)(n:Nat)(t:bT)(cs:dU):Prop:=w.heap[n]?=some (.cells cs t (0,0))
def o6.cell{cs:dU}(h:o6 w n t cs)(i:Nat):w.cell? ⟨n,i,none⟩=cs[i]?:=by unfold o6 at h;simp[World.cell?,h]
def o6.new{w:aB}{n:Nat}(cs:dU)(t:bT)(h:w=n):o6 (w.alloc (.cells cs t)) n t cs:=by subst h;exact heap_alloc_new w _
abbrev jR:=@o6.new
def o6.below{w':aB}{cs:dU}(h:o6 w n t cs)(hb:Below B w w')(hn:n<B):o6 w' n t cs:=
 (hb.block n hn).trans h
def o6.grown{w':aB}{cs:dU}(h:o6 w n t cs){row:Option Nat}(hg:w.grownBy w' row)(hr:∀k,row=some k->n<k):o6 w' n t cs:=
 (hg.block n (lt_of_block h) (λe=>by have:=hr n e.symm;omega)).trans h
def o6.alloc{cs:dU}(h:o6 w n t cs)(o:Obj):o6 (w.alloc o) n t cs:=
 (Below.heap_alloc w o n (lt_of_block h)).trans h
def b94(seq:Nat)(k v:ByteArray)(d:Bool)(w:aB)(h1:1<=k.size)(h2:k.size<=16)(hv:v.size<=64)(h:d=false\/v.size=0):
 Calls prog 171 #[PI seq k v d] w (c3v (summed (body seq k.data.toList v.data.toList d)) w):=by
 unfold PI;obtain⟨i0,hi,hz0,hz1,hz2⟩:=info_parts Dq;have h':¬k.size<1:=aj
 have h'':¬16<k.size:=aj
 have h3:¬64<v.size:=aj
 have hwk:IntKind.u64.wrap (k.size:Int)=(k.size:Int):=yT
 have hwv:IntKind.u64.wrap (v.size:Int)=(v.size:Int):=yT
 rcases Yu d with rfl|rfl
 ·have hv':v.toList.isEmpty=true:=by rw[Ft];exact aN (by simpa using h)
  go_enter func171,ntmps171
  go_wp2_with (at_make;go_must (refine wpList_make_own _ rfl _ _ 25 rfl (w+1) 5 i0 (.int .u8 0) 1 underlying25 hi hz0 hz1 .i64 .i64 _ (16+k.size+v.size) rfl rfl aj (by rw[hz2];omega) lJ aZ ?_);intro w1 hown1 hgrow1)
  have hx0:o6 (w.alloc (.cells #[.int .u64 seq,.string k,.string v,.bool true] 111)) w 111 #[.int .u64 seq,.string k,.string v,.bool true]:=heap_alloc_new w _;have hx1:o6 w1 w 111 #[.int .u64 seq,.string k,.string v,.bool true]:=(hgrow1.block _ aZ aZ).trans hx0;have hb1:Below (w+1) (w.alloc (.cells #[.int .u64 seq,.string k,.string v,.bool true] 111)) w1:=(Below.refl _ _).grown hgrow1 aZ aZ;have hs1:w.heap.size+1<=w1.heap.size:=by have:=hb1.size;simp at this;exact this
  have hW:Dx (w1.alloc (.cells #[.slice (some ⟨w+1,0,none⟩) 0 (16+k.size+v.size)] 309)) (w+1) w1 []:=
   ⟨_,heap_alloc_new w1 _,hs1,by have:=hown1.alloc (.cells #[.slice (some ⟨w+1,0,none⟩) 0 (16+k.size+v.size)] 309);simpa [OwnB] using this⟩
  have uX:Below (w+1) w1 (w1.alloc (.cells #[.slice (some ⟨w+1,0,none⟩) 0 (16+k.size+v.size)] 309)):=Below.alloc (Below.refl _ _) hs1 _;have hb:=hb1.trans uX;have hx:=hx1.below uX aj;clear hown1 hgrow1 hb1 hx0 hx1 uX;generalize w1.heap.size=bw at *;refine(P7 bw (w+1) _ (0) 4 _ hW aj Ec).mono ?_;clear hW;rintro e w2 ⟨rfl,hW,hbn⟩;replace hx:=hx.below hbn aj;replace hb:=hb.trans hbn;clear hbn;have hc2:w2.cell? w=some (.int .u64 seq):=hx.cell 0;go_wp2_with fail
  refine(P7 bw (w+1) _ (seq) 8 _ hW aj Ec).mono ?_;clear hW;rintro e w3 ⟨rfl,hW,hbn⟩;replace hx:=hx.below hbn aj;replace hb:=hb.trans hbn;clear hbn;go_wp2_with fail
  refine(P7 bw (w+1) _ (1) 1 _ hW aj Ec).mono ?_;clear hW;rintro e w4 ⟨rfl,hW,hbn⟩;replace hx:=hx.below hbn aj;replace hb:=hb.trans hbn;clear hbn;have hc4:w4.cell? ⟨w,1,none⟩=some (.string k):=hx.cell 1;go_wp2_with fail
  refine(P7 bw (w+1) _ (k.size) 1 _ hW aj Ec).mono ?_;clear hW;rintro e w5 ⟨rfl,hW,hbn⟩;replace hx:=hx.below hbn aj;replace hb:=hb.trans hbn;clear hbn;have hc5:w5.cell? ⟨w,2,none⟩=some (.string v):=hx.cell 2;go_wp2_with fail
  refine(P7 bw (w+1) _ (v.size) 2 _ hW aj Ec).mono ?_;clear hW;rintro e w6 ⟨rfl,hW,hbn⟩;replace hx:=hx.below hbn aj;replace hb:=hb.trans hbn;clear hbn;have hc6:w6.cell? ⟨w,1,none⟩=some (.string k):=hx.cell 1;go_wp2_with fail
  refine(ZT bw (w+1) _ k _ hW Pq).mono ?_;clear hW;rintro e w7 ⟨rfl,hW,hbn⟩;replace hx:=hx.below hbn aj;replace hb:=hb.trans hbn;clear hbn;have hc7:w7.cell? ⟨w,2,none⟩=some (.string v):=hx.cell 2;go_wp2_with fail
  refine(ZT bw (w+1) _ v _ hW Pq).mono ?_;clear hW;rintro e w8 ⟨rfl,hW,hbn⟩;replace hx:=hx.below hbn aj;replace hb:=hb.trans hbn;clear hbn;go_wp2_with fail
  refine(C4 bw (w+1) _ _ hW Eb Pq).mono ?_;rintro e w9 ⟨r,rfl,hr,hbn⟩;replace hb:=hb.trans hbn;clear hbn;go_wp2_with fail
  go_ret2
  refine⟨r,rfl,?_,?_⟩
  ·have e1:([]++be 0 4++be seq 8++be 1 1++be k.size 1++be v.size 2++k.data.toList++v.data.toList).drop 4=body seq k.data.toList v.data.toList true:=by rw[show[]++be 0 4++be seq 8++be 1 1++be k.size 1++be v.size 2++k.data.toList++v.data.toList=be 0 4++body seq k.data.toList v.data.toList true by simp[body,P8],Hy (H7 0 4)]
   rw[e1] at hr;exact H6 hr aj
  ·exact(Below.alloc (Below.refl _ _) (ak _) _).trans (hb.mono aj)
 ·go_enter func171,ntmps171
  go_wp2_with (at_make;go_must (refine wpList_make_own _ rfl _ _ 25 rfl (w+1) 5 i0 (.int .u8 0) 1 underlying25 hi hz0 hz1 .i64 .i64 _ (16+k.size+v.size) rfl rfl aj (by rw[hz2];omega) lJ aZ ?_);intro w1 hown1 hgrow1)
  have hx0:o6 (w.alloc (.cells #[.int .u64 seq,.string k,.string v,.bool false] 111)) w 111 #[.int .u64 seq,.string k,.string v,.bool false]:=heap_alloc_new w _;have hx1:o6 w1 w 111 #[.int .u64 seq,.string k,.string v,.bool false]:=(hgrow1.block _ aZ aZ).trans hx0;have hb1:Below (w+1) (w.alloc (.cells #[.int .u64 seq,.string k,.string v,.bool false] 111)) w1:=(Below.refl _ _).grown hgrow1 aZ aZ;have hs1:w.heap.size+1<=w1.heap.size:=by have:=hb1.size;simp at this;exact this
  have hW:Dx (w1.alloc (.cells #[.slice (some ⟨w+1,0,none⟩) 0 (16+k.size+v.size)] 309)) (w+1) w1 []:=
   ⟨_,heap_alloc_new w1 _,hs1,by have:=hown1.alloc (.cells #[.slice (some ⟨w+1,0,none⟩) 0 (16+k.size+v.size)] 309);simpa [OwnB] using this⟩
  have uX:Below (w+1) w1 (w1.alloc (.cells #[.slice (some ⟨w+1,0,none⟩) 0 (16+k.size+v.size)] 309)):=Below.alloc (Below.refl _ _) hs1 _;have hb:=hb1.trans uX;have hx:=hx1.below uX aj;clear hown1 hgrow1 hb1 hx0 hx1 uX;generalize w1.heap.size=bw at *;refine(P7 bw (w+1) _ (0) 4 _ hW aj Ec).mono ?_;clear hW;rintro e w2 ⟨rfl,hW,hbn⟩;replace hx:=hx.below hbn aj;replace hb:=hb.trans hbn;clear hbn;have hc2:w2.cell? w=some (.int .u64 seq):=hx.cell 0;go_wp2_with fail
  refine(P7 bw (w+1) _ (seq) 8 _ hW aj Ec).mono ?_;clear hW;rintro e w3 ⟨rfl,hW,hbn⟩;replace hx:=hx.below hbn aj;replace hb:=hb.trans hbn;clear hbn;go_wp2_with fail
  refine(P7 bw (w+1) _ (0) 1 _ hW aj Ec).mono ?_;clear hW;rintro e w4 ⟨rfl,hW,hbn⟩;replace hx:=hx.below hbn aj;replace hb:=hb.trans hbn;clear hbn;have hc4:w4.cell? ⟨w,1,none⟩=some (.string k):=hx.cell 1;go_wp2_with fail
  refine(P7 bw (w+1) _ (k.size) 1 _ hW aj Ec).mono ?_;clear hW;rintro e w5 ⟨rfl,hW,hbn⟩;replace hx:=hx.below hbn aj;replace hb:=hb.trans hbn;clear hbn;have hc5:w5.cell? ⟨w,2,none⟩=some (.string v):=hx.cell 2;go_wp2_with fail
  refine(P7 bw (w+1) _ (v.size) 2 _ hW aj Ec).mono ?_;clear hW;rintro e w6 ⟨rfl,hW,hbn⟩;replace hx:=hx.below hbn aj;replace hb:=hb.trans hbn;clear hbn;have hc6:w6.cell? ⟨w,1,none⟩=some (.string k):=hx.cell 1;go_wp2_with fail
  refine(ZT bw (w+1) _ k _ hW Pq).mono ?_;clear hW;rintro e w7 ⟨rfl,hW,hbn⟩;replace hx:=hx.below hbn aj;replace hb:=hb.trans hbn;clear hbn;have hc7:w7.cell? ⟨w,2,none⟩=some (.string v):=hx.cell 2;go_wp2_with fail
  refine(ZT bw (w+1) _ v _ hW Pq).mono ?_;clear hW;rintro e w8 ⟨rfl,hW,hbn⟩;replace hx:=hx.below hbn aj;replace hb:=hb.trans hbn;clear hbn;go_wp2_with fail
  refine(C4 bw (w+1) _ _ hW Eb Pq).mono ?_;rintro e w9 ⟨r,rfl,hr,hbn⟩;replace hb:=hb.trans hbn;clear hbn;go_wp2_with fail
  go_ret2
  refine⟨r,rfl,?_,?_⟩
  ·have e1:([]++be 0 4++be seq 8++be 0 1++be k.size 1++be v.size 2++k.data.toList++v.data.toList).drop 4=body seq k.data.toList v.data.toList false:=by rw[show[]++be 0 4++be seq 8++be 0 1++be k.size 1++be v.size 2++k.data.toList++v.data.toList=be 0 4++body seq k.data.toList v.data.toList false by simp[body,P8],Hy (H7 0 4)]
   rw[e1] at hr;exact H6 hr aj
  ·exact(Below.alloc (Below.refl _ _) (ak _) _).trans (hb.mono aj)
def add_block(a:Addr)(n:Nat):(a.add n).block=a.block:=YW
def rY(w:aB)(b:Nat)(v:aX)(l:dV):Prop:=Bytes w v l/\∀a n c,v=.slice (some a) n c->l≠[]->a.block<b
def rY.below{w':aB}(h:rY w b v l)(m:Below b w w'):rY w' b v l:=by obtain⟨⟨a,f,rfl,o,q,n⟩,j⟩:=h;refine⟨⟨a,f,rfl,o,q,λg=>?_⟩,j⟩;obtain⟨c,rfl,p⟩:=n g;refine⟨c,rfl,λi x k=>?_⟩;exact(m.cell<|by rw[add_block];grind).trans (p i x k)
def rY.of(h:Bytes w v l):rY w w v l:=by
 refine⟨h,?_⟩;rintro p n c rfl e;let⟨a,k,i,o,q,j⟩:=h;injection i with f;let⟨b,g,m⟩:=j iL;rw[g] at f;injection f with f;subst f
 cases l with
 | nil=>trivial
 | cons=>have:=World.block_lt_of_cell? w _<|m 0 _ rfl;trivial
def rY.sliced{cap:Nat}(h:rY w b (.slice a n cap) l)(i j:Nat)(g:i<=j)(r:j<=l.length):
 rY w b (.slice (if cap=i then a else a.map (·.add i)) (j - i) (cap - i)) ((l.take j).drop i):=by
 refine⟨h.1.sliced i j g r,?_⟩;rintro s m c o k;injection o with d;cases a with
 | none=>grind
 | some p=>
  have:=h.2 p n _ rfl fU;split at d
  injection d with d;subst d;exact this
  simp at d;subst d;rw[add_block];trivial
def rY.head{cap:Nat}(h:rY w b (.slice a m cap) l)(n:Nat)(r:n<=l.length):rY w b (.slice a n n) (l.take n):=by
 let⟨⟨C,c,q,B,y,u⟩,t⟩:=h;injection q with o A v;subst o;subst v;have f:(l.take n).length=n:=iL
 refine⟨?_,?_⟩
 unfold Bytes;rw[f];refine⟨_,_,rfl,ak _,⟨aj,λr=>iL⟩,λs=>?_⟩;let⟨p,z,d⟩:=u iL;refine⟨p,z,λi x g=>d i x ?_⟩;grind
 simp_all
def J4(w:aB)(b B:Nat)(l:dV)(a:Bool):Prop:=
 ∃v,w.heap[b]?=some (.cells #[v,.bool a] 241 (0,0))/\B<=b/\rY w B v l
def J4.set{c:Bool}(h:J4 w b B l c){a:Addr}(g:a.block≠b)(e:B<=a.block)(u:aX):J4 (w.setCell a u) b B l c:=have⟨v,d,i,f⟩:=h;⟨v,by rw[Below.heap_setCell _ _ _ _ (.symm g)];exact d,i,f.below<|(Below.refl B w).setCell e _⟩
def hQ(b B:Nat)(l:dV)(w:aB)(e:Ending)(w':aB):Prop:=e=.returned (.slice none 0 0)/\J4 w' b B l true/\Below b w w'
def gz(b B n:Nat)(l:dV)(w:aB)(e:Ending)(w':aB):Prop:=∃v,e=.returned v/\rY w' B v (l.take n)/\J4 w' b B (l.drop n) false/\Below b w w'
def Qp(h:w.heap[b]?=some (.cells #[u,v] t (0,0))):
 w.cell? b=some u/\w.cell? ⟨b,1,none⟩=some v/\w.frozen? b=false/\w.frozen? ⟨b,1,none⟩=false:=by
 simp[World.cell?,World.frozen?,h]
def tl(h:w.heap[b]?=some (.cells #[u,v] t (0,0))):(w.setCell b x).heap[b]?=some (.cells #[x,v] t (0,0)):=by simp[World.setCell,bg,h]
def ti(h:w.heap[b]?=some (.cells #[u,v] t (0,0))):(w.setCell ⟨b,1,none⟩ x).heap[b]?=some (.cells #[u,x] t (0,0)):=by simp[World.setCell,bg,h]
def mp(b B n:Nat)(l:dV)(c:Bool)(w:aB)(h:J4 w b B l c)(r:c=true\/l.length<n):
 Calls prog 166 #[.pointer (some b),.int .u64 n] w (hQ b B l w):=by
 obtain⟨v,i,f,k⟩:=h;have d:hQ b B l w (.returned (.slice none 0 0)) (w.setCell ⟨b,1,none⟩ (.bool true)):=have g:=(Below.refl b w).setCell (ak _) _;⟨rfl,⟨v,ti i,f,k.below (g.mono f)⟩,g⟩
 obtain⟨q,A,C,t⟩:=Qp i;clear i;obtain⟨⟨a,z,rfl,D,j,y⟩,s⟩:=k;have x:IntKind.u64.wrap (l.length:Int)=(l.length:Int):=yT
 clear j y s;by_cases e:c=true
 ·subst e;go_enter func166,ntmps166
  go_wp2;go_ret;exact d
 obtain rfl:c=false:=by simpa using e
 have u:=by simpa using r
 go_enter func166,ntmps166
 go_wp2;go_ret;exact d
def mn(b B n:Nat)(l:dV)(w:aB)(h:J4 w b B l false)(r:n<=l.length):
 Calls prog 166 #[.pointer (some b),.int .u64 n] w (gz b B n l w):=by
 obtain⟨v,k,f,p⟩:=h;obtain⟨⟨a,c,rfl,L,y,H⟩,A⟩:=id p;obtain⟨E,z,I,C⟩:=Qp k;have D:IntKind.u64.wrap (l.length:Int)=(l.length:Int):=yT
 have G:¬l.length<n:=aj
 clear y H A;have e:∀u,rY w B u (l.drop n)->gz b B n l w (.returned (.slice a n n)) (w.setCell b u):=by intro u K;have o:Below b w (w.setCell b u):=(Below.refl b w).setCell (ak _) _;exact⟨_,rfl,(p.head n r).below (o.mono f),⟨u,tl k,f,K.below (o.mono f)⟩,o⟩
 have g:=p.sliced n l.length r (ak _);rw[bK] at g;by_cases hcn:c=n
 ·subst hcn;have m:=ah (by simpa using g);go_enter func166,ntmps166
  go_wp2;go_ret;simp_all
 ·have m:=ah (by simpa [hcn] using g:rY w B _ (l.drop n));go_enter func166,ntmps166
  go_wp2;go_ret;exact e _ m.out
def vQ(b B:Nat)(m:Nat)(l:dV)(a:Bool)(w:aB)(e:Ending)(w':aB):Prop:=e=.returned (.int .u64 m)/\J4 w' b B l a/\Below b w w'
def b79(b B n:Nat)(l:dV)(a:Bool)(w:aB)(h:J4 w b B l a)(j:a=true\/l.length<n):
 Calls prog 126 #[.pointer (some b),.int .u64 n] w (vQ b B 0 l true w):=by
 go_enter func126,ntmps126
 go_wp2_with fail
 apply(mp b B n l a w h j).mono;rintro e k ⟨rfl,f,g⟩;go_wp2;apply wp_loop_rounds 1;rw[rounds_succ];go_wp2;go_ret;trivial
def mm{x:UInt8}(c:C<72057594037927936):bits BinOp.or IntKind.u64 ((C:Int)*256) (x.toNat:Int)=((C*256+x.toNat:Nat):Int):=by
 have d:=LQ x;have a:=u64_or_nat (C*256) x.toNat aj aj;have b:((C*256:Nat):Int)=C*256:=aj
 rw[b] at a;rw[a,nat_join 8 _ _ aj<|aj]
def b8a(b B n:Nat)(l:dV)(w:aB)(h:J4 w b B l false)(A:n<=l.length)(K:n<=8):
 Calls prog 126 #[.pointer (some b),.int .u64 n] w (vQ b B (num (l.take n)) (l.drop n) false w):=by
 go_enter func126,ntmps126
 go_wp2_with fail
 refine(mn b B n l w h A).mono ?_;rintro e J ⟨v,rfl,⟨D,_⟩,s,E⟩;have o:(l.take n).length<=8:=Ea
 generalize l.take n=m at *;obtain⟨a,u,rfl,F,t,d⟩:=D.open;go_wp2;go_loop [5,7,12] (λc _ i=>∃k:Nat,k<=m.length/\i=.int .i64 k/\c=.int .u64 (num (m.take k))) (λ_ _ i=>m.length - (intOf i).toNat)
 case atStart=>exact⟨0,dD _,rfl,rfl⟩
 case round=>
  obtain⟨k,I,rfl,rfl⟩:=hrel;by_cases f:k<m.length
  obtain⟨M,rfl,L⟩:=d k f;have y:Hid (num (m.take (k+1))=num (m.take k)*256+m[k].toNat):=by
   have e:num (m.take (k+1))=num (m.take k)*256+m[k].toNat:=by rw[take_snoc m k f,wh]
   exact e
  have q:num (m.take k)<256^7:=aF (PX _) (kF aj Ea);clear d;generalize num (m.take k)=C at *;have G:=LQ m[k];generalize m[k]=x at *;have g:=q;clear q;go_wp2;go_round
  case rel=>refine⟨k+1,aj,iE,?_⟩;rw[y.out,mm g]
  case measure=>simp[intOf];omega
  go_wp2;go_ret;obtain rfl:k=m.length:=aj
  exact⟨aZ,s,E⟩
def U5(c:Bytes w v l):
 (convert 25 9 v).run prog w=.ok (.string ⟨l.toArray⟩) w:=by
 obtain⟨a,e,rfl,m,n,g⟩:=c.open
 cases a with
 | none=>
  have:l=[]:=by
   cases l with
   | nil=>rfl
   | cons=>let⟨b,c,_⟩:=g 0 aZ;cases c
  subst this
  rfl
 | some i=>exact run_convert_bytes_back w 25 9 5 i e l underlying25 underlying5 underlying9 fU
def rR(b B:Nat)(s:dV)(l:dV)(a:Bool)(w:aB)(e:Ending)(w':aB):Prop:=e=.returned (.string ⟨s.toArray⟩)/\J4 w' b B l a/\Below b w w'
def c4Z(b B n:Nat)(l:dV)(a:Bool)(w:aB)(h:J4 w b B l a)(j:a=true\/l.length<n):
 Calls prog 127 #[.pointer (some b),.int .u64 n] w (rR b B [] l true w):=by
 go_enter func127,ntmps127
 go_wp2_with fail
 apply(mp b B n l a w h j).mono;rintro e k ⟨rfl,f,g⟩;have m:=U5 (w:=k) (v:=.slice none 0 0) (l:=[]) ⟨none,0,rfl,ak _,⟨aj,λ_=>rfl⟩,λh=>absurd rfl h⟩;go_wp2;go_ret;trivial
def c41(b B n:Nat)(l:dV)(w:aB)(h:J4 w b B l false)(i:n<=l.length):
 Calls prog 127 #[.pointer (some b),.int .u64 n] w (rR b B (l.take n) (l.drop n) false w):=by
 go_enter func127,ntmps127
 go_wp2_with fail
 apply(mn b B n l w h i).mono;rintro e k ⟨v,rfl,⟨c,_⟩,d,g⟩;have m:=U5 c;clear c;go_wp2;go_ret;trivial
def Xt(b B n:Nat)(s:List UInt8×Bool)(w:aB)(h:J4 w b B s.1 s.2)(d:n<=8):
 Calls prog 126 #[.pointer (some b),.int .u64 n] w (vQ b B (nT s n).1 (nT s n).2.1 (nT s n).2.2 w):=by
 unfold nT;by_cases a:s.2=true\/s.1.length<n
 rw[if_pos a];exact b79 b B n _ _ w h a
 rw[if_neg a];have c:s.2=false:=fU
 rw[c] at h;exact b8a b B n _ w h aj d
def xm(b B n:Nat)(s:List UInt8×Bool)(w:aB)(h:J4 w b B s.1 s.2):
 Calls prog 127 #[.pointer (some b),.int .u64 n] w (rR b B (xG s n).1 (xG s n).2.1 (xG s n).2.2 w):=by
 unfold xG;by_cases a:s.2=true\/s.1.length<n
 rw[if_pos a];exact c4Z b B n _ _ w h a
 rw[if_neg a];have c:s.2=false:=fU
 rw[c] at h;exact c41 b B n _ w h<|aj
end Go.Proofs.YtgpbhjjajpbeeaaGreatDoor
