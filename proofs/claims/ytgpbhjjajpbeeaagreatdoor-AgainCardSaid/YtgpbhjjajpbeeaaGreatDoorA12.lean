/- A part of what the last file proves. -/
import Derived.Test.YtgpbhjjajpbeeaaGreatDoorA11
set_option linter.all false
set_option maxHeartbeats 1000000
namespace Go.Bi
variable{t:bT}{x y:Operand}
section
variable{S:Sit}{P:Program}
structure SB where
 F:FuncId->Bool
 T:TypeId->Bool
variable(B:SB)(P:Program)
def Ed:Nat->Value->Bool
 | 0,_=>false
 | n+1,v=>match v with
  | .bool _|.int .. | .string _|.pointer none|.slice none _ _|.nilIface=>true
  | .iface t v=>B.T t&&Ed n v
  | .agg c|.tuple c=>c.toList.all (Ed n)
  | _=>false
def CW(t:bT):Bool:=match P.info? t with
 | some i=>(match i.zero with|some z=>Ed B 6 z|none=>true)
 | none=>true
def Py:Operand->Bool
 | .tmp _=>true
 | .const v=>Ed B 6 v
 | .global _=>false
 | .func f=>B.F f
def sliceB(t:bT):Option TypeId:=match P.underlying t with
 | some (.slice e)=>some e
 | _=>none
def GH(t:bT):Bool:=match P.underlying t with
 | some (.int _)=>true
 | _=>false
def Wi(c:Call):Bool:=match c.callee with
 | .value (.func f)=>B.F f
 | .builtin .len=>(match c.argTypes[0]? with|some u=>(sliceB P u).isSome|none=>false)
 | .builtin .append=>(match c.argTypes[0]?,c.argTypes[1]? with
  | some u,some a=>(match sliceB P u,sliceB P a with|some e,some _=>CW B P e|_,_=>false)
  | _,_=>false)
 | _=>false
def Px(t:bT)(y:Operand):Bool:=GH P t||(match P.underlying t,y with|some (.interface _),.const .nilIface=>true|_,_=>false)
def Vy(s d:bT):Bool:=(GH P s&&GH P d)||(match P.underlying s,P.underlying d with
 | some (.slice e),some .string=>(match P.underlying e with|some (.int .u8)=>true|_=>false)
 | _,_=>false)
def cv:BinOp->Bool
 | .eql|.neq=>true
 | _=>false
def FU(o:Op):Bool:=match o with
 | .move _|.assign _|.pick .. | .load .. | .store .. | .nilCheck _|.extract .. | .indexAddr .. | .slice .. | .unOp ..=>true
 | .alloc t|.build t _=>CW B P t
 | .buildSlice t _ _=>(match sliceB P t with|some e=>CW B P e|none=>true)
 | .binOp a t _ y _=>Y_ a||(cv a&&Px P t y)
 | .convert s d _=>Vy P s d
 | .makeInterface t _=>B.T t
 | .fieldAddr s _ f=>(match P.underlying s with|some (.struct b)=>(match b[f]? with|some g=>(match P.info? g.type with|some i=>i.size != 0|none=>true)|none=>true)|_=>true)
 | .call c=>Wi B P c
 | _=>false
def iF:Code->Bool
 | .seq a b=>iF a&&iF b
 | .cond c a b=>Py B c&&iF a&&iF b
 | .block _ b=>iF b
 | .loop b=>iF b
 | .region _ d _=>d.toList.all λo=>FU B P o.op&&o.op.operands.toList.all (Py B)
 | .skip|.label _|.exit _|.ret=>true
 | _=>false
variable{B P}
theorem Ed.sound(g:∀t,B.T t=true->S.T t):∀(n:Nat)(v:aX),Ed B n v=true->VR S v v:=by
 intro n
 induction n with
 | zero=>intro v h;cases h
 | succ n b=>
  have a:∀c:dU,c.toList.all (Ed B n)=true->∀(i:Nat)(d:i<c.size)(f:i<c.size),VR S c[i] c[i]:=λc e i d f=>b _ iL;intro v h;unfold Ed at h;split at h<;>first|(constructor;done)|skip
  simp at h;exact .iface _ _ _ (g _ h.1)<|b _ h.2
  exact .agg _ _ rfl<|a _ h
  exact .tuple _ _ rfl<|a _ h
  cases h
section
variable(hT:∀t,B.T t=true->S.T t)(hF:∀f,B.F f=true->S.F f)
include hT
theorem CW.sound(h:CW B P t=true):pF S P t:=by intro i z a b;unfold CW at h;rw[a] at h;simp at h;rw[b] at h;exact Ed.sound hT _ _ h
omit hT in
theorem sliceB.sound{e:bT}(h:sliceB P t=some e):P.underlying t=some (.slice e):=by
 unfold sliceB at h;split at h
 ·rename_i e' he;injection h with h;subst h;exact he
 ·cases h
omit hT in
theorem GH.sound(h:GH P t=true):∃k,P.underlying t=some (.int k):=by
 unfold GH at h;split at h
 ·rename_i k hk;exact⟨k,hk⟩
 ·cases h
include hF
theorem Py.sound(h:Py B x=true):Ja S x:=by
 cases x with
 | tmp=>trivial
 | const=>exact Ed.sound hT _ _ h
 | global=>cases h
 | func f=>exact hF f h
theorem Wi.sound{c:Call}(h:Wi B P c=true):rz S P c:=by
 unfold Wi at h;unfold rz;split at h<;>rename_i d
 rw[d];exact hF _ h
 rw[d];dsimp;split at h
 rename_i u g;let⟨e,f⟩:=XK.1 h;exact⟨e,λk a=>by rw[g] at a;injection a with a;subst a;exact sliceB.sound f⟩
 cases h
 rw[d];dsimp;split at h
 rename_i u k g a;split at h
 rename_i e j f i;exact⟨e,j,λx b=>by rw[g] at b;injection b with b;subst b;exact sliceB.sound f,CW.sound hT h,λx b=>by rw[a] at b;injection b with b;subst b;exact sliceB.sound i⟩
 cases h
 cases h
 cases h
omit hT hF in
theorem Px.sound(h:Px P t y=true):Zj P t y:=by
 unfold Px at h;rw[rD] at h;rcases h with h|h
 ·obtain⟨k,hk⟩:=GH.sound h;exact .int k hk y
 ·split at h
  ·rename_i ms hms;exact .nil ms hms
  ·cases h
omit hT hF in
theorem Vy.sound{s d:bT}(h:Vy P s d=true):qq P s d:=by
 unfold Vy at h;rw[rD,aI] at h;rcases h with⟨h1,h2⟩|h
 ·obtain⟨k,hk⟩:=GH.sound h1;obtain⟨k',hk'⟩:=GH.sound h2;exact .int k k' hk hk'
 ·split at h
  ·rename_i e h1 h2;split at h
   ·rename_i h3;exact .bytes e h1 h3 h2
   ·cases h
  ·cases h
theorem FU.sound{o:Op}(h:FU B P o=true):MW S P o:=by
 cases o<;>first|trivial|(cases h;done)|skip
 case alloc t=>exact CW.sound hT h
 case build t r=>exact CW.sound hT h
 case buildSlice t n r=>
  intro e q;have a:(match sliceB P t with|some e=>CW B P e|none=>true)=true:=h;have:sliceB P t=some e:=by unfold sliceB;rw[q]
  rw[this] at a;exact CW.sound hT a
 case binOp k t x y u=>
  have a:(Y_ k||(cv k&&Px P t y))=true:=h;rw[rD,aI] at a;obtain a|⟨b,j⟩:=a
  exact .inl a
  refine .inr ⟨?_,Px.sound j⟩;cases k<;>first|trivial|cases b
 case convert s d x=>exact Vy.sound h
 case makeInterface t x=>exact hT _ h
 case call c=>exact Wi.sound hT hF h
 case fieldAddr s x f=>intro l g i b j p;have a:(match P.underlying s with|some (.struct l)=>(match l[f]? with|some g=>(match P.info? _ with|some i=>i.size != 0|none=>true)|none=>true)|_=>true)=true:=h;grind
theorem iF.sound:∀{c:Code},iF B P c=true->jO S P Zn.Full c:=by
 intro c
 induction c with
 | seq a b f e=>intro h;simp[iF,aI] at h;exact⟨f h.1,e h.2⟩
 | cond c a b f e=>intro h;simp[iF,aI] at h;exact⟨⟨Py.sound hT hF h.1.1,λ_ _=>trivial⟩,f h.1.2,e h.2⟩
 | block=>assumption
 | loop=>assumption
 | region=>
  intro h o k;have:=aU.1 (kT) o iL;simp only[aI] at this
  exact⟨FU.sound hT hF this.1,λx j=>⟨Py.sound hT hF (aU.1 this.2 x iL),λ_ _=>trivial⟩,λ_ _=>trivial⟩
 | skip=>intro _;trivial
 | label=>intro _;trivial
 | exit=>intro _;trivial
 | ret=>intro _;trivial
 | _=>intro h;cases h
end
end
end Go.Bi
namespace Go.Zn
section
def LD(f:Tmp->Bool):Operand->Bool
 | .tmp t=>f t
 | _=>true
def mG(f:Tmp->Bool):Code->Bool
 | .seq a b=>mG f a&&mG f b
 | .cond c a b=>LD f c&&mG f a&&mG f b
 | .block _ b=>mG f b
 | .loop b=>mG f b
 | .scope b=>mG f b
 | .region _ d _=>d.toList.all λo=>o.op.operands.toList.all (LD f)
 | .rangeFunc _ _ _ _=>false
 | _=>true
def Gz(f:Tmp->Bool):Code->Bool
 | .seq a b=>Gz f a&&Gz f b
 | .cond _ a b=>Gz f a&&Gz f b
 | .block _ b=>Gz f b
 | .loop b=>Gz f b
 | .region _ c _=>c.toList.all λo=>match o.dst with|some t=>f t|none=>true
 | _=>true
variable{f:Tmp->Bool}
theorem LD.sound{x:Operand}(h:LD f x=true):∀t,x=.tmp t->f t=true:=by rintro t rfl;exact h
theorem mG.sound:∀{c:Code},mG f c=true->iW (λt=>f t=true) c:=by
 intro c
 induction c with
 | seq a b e d=>intro h;simp[mG,aI] at h;exact⟨e h.1,d h.2⟩
 | cond _ a b e d=>intro h;simp[mG,aI] at h;exact⟨e h.1.2,d h.2⟩
 | block=>assumption
 | loop=>assumption
 | scope=>assumption
 | region=>intro h o j x l;exact(aU.1 (aU.1 kT o<|iL) x iL |> LD.sound)
 | _=>intro _;trivial
theorem Gu{S:Bi.Sit}{P:Program}:∀{c:Code},Bi.jO S P Full c->mG f c=true->Gz f c=true->Bi.jO S P (λt=>f t=true) c:=by
 intro c
 induction c with
 | seq a b g i=>intro h d e;simp[mG,Gz,aI] at d e;exact⟨g h.1 d.1 e.1,i h.2 d.2 e.2⟩
 | cond c a b g i=>intro h d e;simp[mG,Gz,aI] at d e;exact⟨⟨h.1.1,LD.sound d.1.1⟩,g h.2.1 d.1.2 e.1,i h.2.2 d.2 e.2⟩
 | block=>assumption
 | loop=>assumption
 | region=>intro h d e o l;let⟨r,u,v⟩:=h o l;have k:=aU.1 kT o iL;refine⟨r,λx q=>⟨(u x q).1,(aU.1 (aU.1 d o iL) x iL |> LD.sound)⟩,λt s=>?_⟩;simp_all
 | skip=>intro h _ _;trivial
 | label=>intro h _ _;trivial
 | exit=>intro h _ _;trivial
 | ret=>intro h _ _;trivial
 | _=>intro h;trivial
end
end Go.Zn
namespace Go.Nm
open Go.Extern Go.Extern.Rtype
variable{a:Addr}{α:Type}{v:aX}
section
open Zn (iG)
section
variable{P:Program}
theorem bq(a:String)(t:bT):Mf P (noPack a t):=by
 unfold noPack
 repeat' first|with_reducible (first|apply V9|apply O1)|trivial
theorem b0Q(a:String)(t:bT):Mf P (noPackNamed a t):=by
 unfold noPackNamed
 repeat' first|with_reducible (first|apply V9|apply O1)|trivial
theorem IT(a:String)(t:bT):Mf P (noPackMethods a t):=by
 unfold noPackMethods
 repeat' first|with_reducible (first|apply V9|apply O1)|trivial
theorem ui(t:bT):Mf P (spelt t):=by repeat' first|apply cr|apply b0Q|refine l7 ?_ λ_=>?_
theorem ZW(t:bT):Mf P (under t):=by repeat' first|apply o8|apply J7|refine l7 ?_ λ_=>?_|split
theorem ZH(t:bT):Mf P (kind t):=by
 unfold kind
 repeat' first|rfl|with_reducible (first|apply D5|apply o8|apply ZW|refine l7 ?_ λ_=>?_)|split
theorem b7N(t:bT):Mf P (hasName t):=by repeat' first|rfl|apply o8|apply J7|refine l7 ?_ λ_=>?_|split
theorem ue(t:bT):Mf P (elem? t):=by repeat' first|apply o8|apply ZW|refine l7 ?_ λ_=>?_|split
theorem G3(t v:bT):Mf P (implements t v):=by
 unfold implements
 repeat' first|apply o8|apply J7|apply IT|apply ZW|refine l7 ?_ λ_=>?_|split
theorem NF(t v:bT):Mf P (directlyAssignable t v):=by
 unfold directlyAssignable
 repeat' first|apply o8|apply ZW|apply b7N|refine l7 ?_ λ_=>?_|split
theorem DO(h:aX):Mf P (ofHandle h):=by
 unfold ofHandle
 repeat' first|with_reducible (first|apply D5|apply o8|apply V9)|split
def BC(t:bT):Mf P (handle t):=trivial
theorem Hk(n:String):Mf P (cutType n):=by
 unfold cutType
 repeat' first|with_reducible (first|apply D5|apply o8|apply V9)|split
theorem ze(t:bT):Mf P (ReflectliteType.toType t):=by repeat' first|trivial|apply BC|apply Hk|refine l7 ?_ λ_=>?_
theorem c1f{args:dU}:Mf P (ReflectliteType.typeOf args):=by
 obtain⟨l⟩:=args;obtain _|⟨x,_|⟨y,l⟩⟩:=l
 exact trivial
 cases x<;>first|exact ze _|trivial
 trivial
theorem Db(v:aX):Mf P (ReflectliteType.ofRtype v):=by
 cases v<;>first|trivial|skip
 rename_i c;let⟨l⟩:=c;obtain _|⟨x,_|⟨y,l⟩⟩:=l
 exact trivial
 exact l7 (DO _) λ_=>l7 (bq _ _) λ_=>trivial
 trivial
theorem c1g{f:TypeId->Sem Value}(b:∀t,Mf P (f t))(args:dU):Mf P (ReflectliteType.method f args):=by
 let⟨l⟩:=args;obtain _|⟨x,_|⟨y,l⟩⟩:=l
 exact trivial
 exact l7 (Db _) λt=>b t
 trivial
theorem NE{a:String}{f:TypeId->TypeId->Sem Bool}(c:∀t u,Mf P (f t u))(args:dU):Mf P (ReflectliteType.relation a f args):=by
 obtain⟨l⟩:=args;obtain _|⟨x,_|⟨y,_|⟨z,l⟩⟩⟩:=l
 exact trivial
 exact trivial
 cases y<;>first
  | exact l7 (Db _) λ_=>l7 (Db _) λ_=>l7 (c _ _) λ_=>trivial
  | trivial
 trivial
theorem b4p{f:TypeId->Sem Value}(b:∀t,Mf P (f t))(args:dU):Mf P (ReflectliteType.abiMethod f args):=by
 let⟨l⟩:=args;obtain _|⟨x,_|⟨y,l⟩⟩:=l
 exact trivial
 exact l7 (DO _) λt=>l7 (bq _ _) λ_=>b t
 trivial
def HZ(s:String):Mf P (panicString s:Sem α):=trivial
theorem c4x(t:bT):Mf P (ReflectliteType.elem t):=by repeat' first|rfl|apply ui|apply ue|apply ze|apply HZ|refine l7 ?_ λ_=>?_|split
theorem b0S(u t:bT):Mf P (ReflectliteType.implements_ u t):=by repeat' first|apply bq|apply IT|apply ZH|apply G3|apply HZ|refine l7 ?_ λ_=>?_|apply O1
theorem a9x(u t:bT):Mf P (ReflectliteType.assignableTo u t):=by repeat' first|apply o8|apply IT|apply G3|apply NF|refine l7 ?_ λ_=>?_|apply O1
theorem eQ(t:bT)(c:Nat):Mf P (ReflectliteValue.mk t a c):=by repeat' first|trivial|apply ZH|apply BC|refine l7 ?_ λ_=>?_
theorem BB:Mf P (ReflectliteValue.unpack v):=by
 unfold ReflectliteValue.unpack
 repeat' first|rfl|with_reducible (first|apply D5|apply o8|apply Qq|apply eQ|refine l7 ?_ λ_=>?_)|split
theorem XH(m:String)(k:Nat):Mf P (ReflectliteValue.valueError m k:Sem α):=by
 unfold ReflectliteValue.valueError
 repeat' with_reducible (first|apply Hm|apply zm|apply Qq|apply Hk|refine l7 ?_ λ_=>?_)
theorem NB:Mf P (ReflectliteValue.partsAny v):=by
 have d:∀(e:aX)(a:Addr)(f:Nat),Mf P (do pure (some (<-ofHandle e,a,f))):=λe a f=>l7 (DO _) λ_=>trivial;cases v<;>first|exact trivial|skip
 rename_i c;obtain⟨l⟩:=c;rcases l with _|⟨x,_|⟨y,_|⟨z,_|⟨u,l⟩⟩⟩⟩
 exact trivial
 exact trivial
 exact trivial
 cases z<;>first|exact trivial|skip
 rename_i k n;cases k<;>first|exact trivial|skip
 cases n with
 | ofNat n=>
  cases n with
  | zero=>exact trivial
  | succ n=>
   cases y<;>first|exact trivial|skip
   rename_i p
   cases p with
   | none=>exact trivial
   | some a=>exact d x a (n+1)
 | negSucc n=>
  cases y<;>first|exact trivial|skip
  rename_i p
  cases p with
  | none=>exact trivial
  | some a=>exact d x a _
 trivial
theorem ZV:Mf P (ReflectliteValue.parts v):=by repeat' first|apply o8|apply bq|exact NB|refine l7 ?_ λ_=>?_|split
theorem c1h(t:bT)(c k:Nat):Mf P (ReflectliteValue.isNil t a c k):=by
 unfold ReflectliteValue.isNil
 repeat' first|assumption|exact o8 _|apply MI|apply XH|refine l7 ?_ λ_=>?_|rfl|split|rfl
theorem c4y(t:bT)(c k:Nat):Mf P (ReflectliteValue.elem t a c k):=by
 unfold ReflectliteValue.elem
 repeat' first|assumption|with_reducible (first|exact o8 _|exact MI _|exact ue _|exact eQ _ _|exact BB|apply XH|refine l7 ?_ λ_=>?_|assumption)|split|dsimp
theorem c8F{args:dU}:Mf P (ReflectliteValue.set args):=by
 obtain⟨l⟩:=args;rcases l with _|⟨x,_|⟨y,_|⟨z,l⟩⟩⟩
 exact trivial
 exact trivial
 unfold ReflectliteValue.set;refine l7 ZV λo=>l7 ZV λc=>?_
 cases o with
 | none=>exact trivial
 | some o=>
  cases c with
  | none=>exact trivial
  | some c=>obtain⟨d,a,f⟩:=o;obtain⟨e,b,g⟩:=c;dsimp only;repeat' first|assumption|with_reducible (first|refine wR _ ?_|exact o8 _|exact MI _|exact OS _|exact ui _|exact ZH _|exact G3 _ _|exact NF _ _|exact HZ _|exact ZV|refine l7 ?_ λ_=>?_|refine O1 _ ?_ ?_)|split|dsimp only|exact trivial
 exact trivial
end
end
end Go.Nm
