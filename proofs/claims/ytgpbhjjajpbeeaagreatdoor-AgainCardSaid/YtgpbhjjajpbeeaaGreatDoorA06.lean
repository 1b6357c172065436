/- A part of what the last file proves. -/
import Derived.Test.YtgpbhjjajpbeeaaGreatDoorA05
import Derived.Control
set_option linter.all false
set_option maxHeartbeats 8000000
namespace Go.Nm
variable{a b:Addr}{k v x y:aX}{o:Obj}{m n r:Nat}{c:dU}{α:Type}{d i:Bool}{w:aB}
open Go.Extern
section
open Zn (iG)
section
variable{P:Program}
def nt:Mf P (load a):=λ_=>trivial
def c4l:Mf P (store a v):=trivial
def Xk:Mf P (newObj o):=λ_=>trivial
def zo(r:Nat):Mf P (shape r):=λ_=>trivial
def c02(a:Addr)(n:Nat):Mf P (freeze a n):=trivial
def zw(a:Addr):Mf P (frozen a):=λ_=>trivial
def Du:Mf P (getObj r):=λ_=>trivial
def zp:Mf P (setObj r o):=trivial
def P9(q:Question):Mf P (choose q):=λ_=>trivial
def Bw(n:Nat):Mf P (askRoom n):=by
 try unfold askRoom
 repeat' first|trivial|split
def y9(t:bT):Mf P (underlying t):=by
 try unfold underlying
 repeat' first|with_reducible (first|exact D5 _|exact o8 _|refine V9 ?_)|split
def J7(t:bT):Mf P (typeInfo t):=by
 try unfold typeInfo
 repeat' first|with_reducible (first|exact D5 _|exact o8 _|refine V9 ?_)|split
def O4(t:bT):Mf P (sizeOf t):=by
 try unfold sizeOf
 repeat' first|with_reducible (first|exact o8 _|exact J7 _|refine l7 ?_ λ_=>?_)
def ul(t:bT):Mf P (isAgg t):=by
 try unfold isAgg
 repeat' first|with_reducible (first|exact o8 _|exact y9 _|refine l7 ?_ λ_=>?_)|split
def cr(t:bT):Mf P (typeStr t):=by
 try unfold typeStr
 repeat' first|with_reducible (first|exact J7 _|refine l7 ?_ λ_=>?_|refine O1 _ ?_ ?_)|trivial
def zm(t:bT):Mf P (elemOf t):=by
 try unfold elemOf
 repeat' first|with_reducible (first|exact D5 _|exact o8 _|exact y9 _|refine l7 ?_ λ_=>?_)|split
def X7(t:bT):Mf P (zeroValue t):=by
 try unfold zeroValue
 repeat' first|with_reducible (first|exact J7 _|refine l7 ?_ λ_=>?_)|split|trivial
def a8f(n:Nat):∀(i:Nat)(b:dU),Mf P (loadCellsFrom a i n b):=by
 induction n with
 | zero=>exactλ_ _=>trivial
 | succ n c=>exactλi b=>l7 nt λv=>c _ _
def cP(n:Nat):Mf P (loadCells a n):=by
 try unfold loadCells
 repeat' first|with_reducible exact a8f _ _ _
def cV:∀(l:jl)(i:Nat), Mf P (storeCells a l i):=by
 intro l
 induction l with
 | nil=>intros;trivial
 | cons=>
  intros;try unfold storeCells
  repeat' first|with_reducible (first|grind|exact c4l|refine l7 ?_ λ_=>?_)
def MI(t:bT):Mf P (loadVar t a):=by
 try unfold loadVar
 repeat' first|with_reducible (first|exact o8 _|exact nt|exact O4 _|exact ul _|exact cP _|refine l7 ?_ λ_=>?_|refine O1 _ ?_ ?_)
def OS(t:bT):Mf P (storeVar t a v):=by
 try unfold storeVar
 repeat' first|with_reducible (first|exact D5 _|exact O4 _|exact cV _ _|refine l7 ?_ λ_=>?_|refine O1 _ ?_ ?_)
def ML(t:bT):Mf P (newRow t c):=by
 try unfold newRow
 repeat' first|with_reducible (first|exact o8 _|exact Xk|refine l7 ?_ λ_=>?_)
def Qq(t:bT):Mf P (newVar t v):=by
 try unfold newVar
 repeat' first|with_reducible exact ML _
def Et(t:bT)(a:Nat):Mf P (part t c a):=by
 try unfold part
 repeat' first|with_reducible (first|exact D5 _|exact o8 _|exact O4 _|exact ul _|refine l7 ?_ λ_=>?_)|split
def J3(e:RuntimeError):Mf P (runtimePanic e:Sem α):=by
 try unfold runtimePanic
 repeat' first|rfl|with_reducible (first|exact Hm _|exact zm _|exact Qq _|refine V9 ?_|refine l7 ?_ λ_=>?_)|split
def Ix(k:IntKind)(x y:Int)(c:BoundsCode):Mf P (boundsPanic k x y c:Sem α):=by
 try unfold boundsPanic
 repeat' first|with_reducible (first|exact P9 _|exact J3 _|refine l7 ?_ λ_=>?_|simp|refine O1 _ ?_ ?_)
def cq(v:aX):Mf P (asIntOf v):=by
 try unfold asIntOf
 repeat' first|split|trivial
def Qh(v:aX):Mf P (asInt v):=by
 try unfold asInt
 repeat' first|with_reducible (first|exact o8 _|exact cq _|refine l7 ?_ λ_=>?_)
def bA(v:aX):Mf P (asBool v):=by
 try unfold asBool
 repeat' first|split|trivial
def c4m:Mf P (asAgg v):=by
 try unfold asAgg
 repeat' first|split|trivial
def Xj:Mf P (asAddr v):=by
 try unfold asAddr
 repeat' first|split|trivial
def Xw:Mf P (Instr.sureAddr v):=by
 try unfold Instr.sureAddr
 repeat' first|split|trivial
def zj:Mf P (viewAt r):=by
 try unfold viewAt
 repeat' first|with_reducible (first|exact o8 _|exact zo _|exact Du|refine l7 ?_ λ_=>?_)|split
def OK:Mf P (numberAt r):=by
 try unfold numberAt
 repeat' first|with_reducible (first|exact o8 _|exact zo _|exact Du|refine l7 ?_ λ_=>?_)|split
def Hv:Mf P (behindNumber a):=by
 try unfold behindNumber
 repeat' first|with_reducible (first|exact o8 _|exact OK|refine l7 ?_ λ_=>?_)
def On(l:Bool):Mf P (asNumber a l):=by
 try unfold asNumber
 repeat' first|with_reducible (first|exact o8 _|exact Xk|refine l7 ?_ λ_=>?_)
def BV:Mf P (noView a):=by
 try unfold noView
 repeat' first|with_reducible (first|exact zj|refine l7 ?_ λ_=>?_|refine O1 _ ?_ ?_)|trivial
def a3X(a:Addr):Mf P (markStringish a):=by
 try unfold markStringish
 repeat' first|with_reducible (first|exact o8 _|exact zo _|exact c02 _ _|refine l7 ?_ λ_=>?_)|split
def b4g(a:Addr):Mf P (stringish a):=by
 try unfold stringish
 repeat' first|with_reducible (first|exact o8 _|exact zo _|exact zw _|refine l7 ?_ λ_=>?_)|split
def b5B(a b:Addr):Mf P (mayBeOne a b):=by
 try unfold mayBeOne
 repeat' first|with_reducible (first|exact o8 _|exact zo _|exact b4g _|refine l7 ?_ λ_=>?_)
def Of:Mf P (sameAddr a b):=by
 try unfold sameAddr
 repeat' first|with_reducible (first|exact zw _|exact P9 _|exact BV|exact b5B _ _|refine l7 ?_ λ_=>?_|refine O1 _ ?_ ?_)|trivial
def b7y:Mf P (cellsIn r):=by
 try unfold cellsIn
 repeat' first|with_reducible (first|exact o8 _|exact zo _|exact Du|refine l7 ?_ λ_=>?_)|split
def br:Mf P (byteOf a):=by
 try unfold byteOf
 repeat' first|rfl|with_reducible (first|exact D5 _|exact o8 _|exact zo _|exact BV|refine V9 ?_|refine l7 ?_ λ_=>?_|simp)|split
def c04(c b:Nat):Mf P (partAt a c b):=by
 try unfold partAt
 repeat' first|with_reducible (first|exact o8 _|exact br|refine l7 ?_ λ_=>?_)
def Hh(f:Field):Mf P (fieldPlace a f):=by
 try unfold fieldPlace
 repeat' first|with_reducible (first|exact o8 _|exact O4 _|exact c04 _ _|refine l7 ?_ λ_=>?_|refine O1 _ ?_ ?_)
def b0L(a:Addr)(u:bT)(n:Nat):Mf P (variablesAt a u n):=by
 try unfold variablesAt
 repeat' first|with_reducible (first|exact o8 _|exact zo _|refine V9 ?_|refine l7 ?_ λ_=>?_)|split
def c4n(t:bT):Mf P (Instr.alloc t true (.tuple #[])):=by
 try unfold Instr.alloc
 repeat' first|with_reducible (first|exact o8 _|exact X7 _|exact Qq _|refine l7 ?_ λ_=>?_)
def c8A(t:bT):Mf P (Instr.box t v):=by
 try unfold Instr.box
 repeat' first|with_reducible (first|exact o8 _|exact Qq _|refine l7 ?_ λ_=>?_)
def c4o(t:bT){b:Array (Nat×Value)}:Mf P (Instr.build t b):=by
 try unfold Instr.build
 repeat' first|with_reducible (first|exact D5 _|exact o8 _|exact y9 _|exact O4 _|exact X7 _|refine l7 ?_ λ_=>?_|refine oe _ _ λ_=>?_)|split
def b1M(t:bT)(c:Nat){b:Array (Nat×Value)}:Mf P (Instr.buildSlice t c b):=by
 try unfold Instr.buildSlice
 repeat' first|assumption|with_reducible (first|exact D5 _|exact o8 _|exact y9 _|exact O4 _|exact X7 _|exact ML _|refine l7 ?_ λ_=>?_)|split|dsimp|trivial
def c06(t:bT){a:aX}:Mf P (Instr.loadAt t a):=by
 try unfold Instr.loadAt
 repeat' first|with_reducible (first|exact MI _|exact Xw|refine l7 ?_ λ_=>?_)
def b7z(t:bT){a:aX}:Mf P (Instr.storeAt t a v):=by
 try unfold Instr.storeAt
 repeat' first|with_reducible (first|exact OS _|exact Xw|refine l7 ?_ λ_=>?_)
def b7A(s:bT){a:aX}(f:Nat):Mf P (Instr.fieldAt s a f):=by
 try unfold Instr.fieldAt
 repeat' first|with_reducible (first|exact D5 _|exact o8 _|exact y9 _|exact Xw|exact Hh _|refine l7 ?_ λ_=>?_)|split
def b7B(t:bT)(i:aX):Mf P (Instr.indexAt t x i):=by
 try unfold Instr.indexAt
 repeat' first|assumption|with_reducible (first|exact D5 _|refine wR _ ?_|exact o8 _|exact y9 _|exact O4 _|exact Ix _ _ _ _|exact cq _|exact Xw|refine l7 ?_ λ_=>?_|refine O1 _ ?_ ?_)|split|dsimp|trivial
def b1N(x:aX)(y:Nat)(c:BoundsCode):Mf P (Instr.sliceBound x y c):=by
 try unfold Instr.sliceBound
 repeat' first|with_reducible (first|exact o8 _|exact Ix _ _ _ _|exact cq _|refine l7 ?_ λ_=>?_|refine O1 _ ?_ ?_)
def WF(s:Bool)(d cap:Nat)(c b max:Option Value):Mf P (Instr.sliceBounds s d cap c b max):=by
 try unfold Instr.sliceBounds
 repeat' first|assumption|with_reducible (first|exact D5 _|exact o8 _|exact b1N _ _ _|refine l7 ?_ λ_=>?_)|split|dsimp|rfl
def c4p(t:bT)(c b max:Option Value):Mf P (Instr.slice t x c b max):=by
 try unfold Instr.slice
 repeat' first|assumption|with_reducible (first|exact D5 _|exact o8 _|exact y9 _|exact O4 _|exact Xj|exact WF _ _ _ _ _ _|refine l7 ?_ λ_=>?_)|split|rfl
def b7C(t:bT)(c b max:Option Value):Mf P (Instr.sliceAt t x c b max):=by
 try unfold Instr.sliceAt
 repeat' first|with_reducible (first|exact o8 _|exact y9 _|exact O4 _|exact Xw|exact WF _ _ _ _ _ _|exact c4p _ _ _ _|refine l7 ?_ λ_=>?_)|split
def a8h(t:bT):Mf P (Instr.makeInterface t v):=by
 try unfold Instr.makeInterface
 repeat' first|with_reducible (first|exact D5 _|exact o8 _|exact y9 _|refine l7 ?_ λ_=>?_)|split
def b5C{fn:Fn}{a b:dU}:Mf P (Instr.makeFunc fn a b):=by trivial
def b7D(t:bT)(r:Option Value):Mf P (Instr.makeMap t r):=by
 try unfold Instr.makeMap
 repeat' first|with_reducible (first|exact D5 _|exact o8 _|exact Xk|exact y9 _|exact Qh _|refine l7 ?_ λ_=>?_)|split
def b4h(t:bT)(l c:aX):Mf P (Instr.makeSlice t l c):=by
 try unfold Instr.makeSlice
 repeat' first|assumption|with_reducible (first|exact D5 _|exact o8 _|exact P9 _|exact Bw _|exact y9 _|exact J7 _|exact O4 _|exact X7 _|exact ML _|exact J3 _|exact Qh _|refine l7 ?_ λ_=>?_)|split|dsimp|assumption
def c4q(t:bT)(f:Nat):Mf P (Instr.field t x f):=by
 try unfold Instr.field
 repeat' first|rfl|with_reducible (first|exact D5 _|exact y9 _|exact Et _ _|exact c4m|refine l7 ?_ λ_=>?_)|split
def c4r(t:bT)(i:aX):Mf P (Instr.index t x i):=by
 try unfold Instr.index
 repeat' first|rfl|with_reducible (first|exact D5 _|exact o8 _|exact y9 _|exact O4 _|exact Et _ _|exact Ix _ _ _ _|exact cq _|refine l7 ?_ λ_=>?_)|split
def b7E(i:Nat):Mf P (Instr.extract x i):=by
 try unfold Instr.extract
 repeat' first|split|trivial
def b5D:Mf P Instr.panicnil:=by refine l7 c8w λ_=>?_;repeat' first|split|trivial
def uk(x:aX):Mf P (Instr.panic x):=by
 unfold Instr.panic;split
 trivial
 refine l7 b5D λ_=>?_;split
 trivial
 exact J3 _
 trivial
def b1O(t u:bT)(b:Bool):Mf P (Instr.typeAssert x t u b):=by
 try unfold Instr.typeAssert
 repeat' first|assumption|with_reducible (first|exact D5 _|exact o8 _|exact y9 _|exact J7 _|exact X7 _|exact J3 _|refine l7 ?_ λ_=>?_)|split|dsimp|rfl
def b5F(op:BinOp)(k:IntKind)(x y:Int):Mf P (Op.intArith op k x y):=by
 try unfold Op.intArith
 repeat' first|split|trivial
def b7F(op:BinOp)(k:IntKind)(x y:Int):Mf P (Op.intBits op k x y):=by
 try unfold Op.intBits
 repeat' first|split|trivial
def c07(op:BinOp)(x y:Int):Mf P (Op.intCmp op x y):=by
 try unfold Op.intCmp
 repeat' first|split|trivial
def c08(op:BinOp)(k:IntKind)(x y:Int):Mf P (Op.intDiv op k x y):=by
 try unfold Op.intDiv
 repeat' first|split|trivial
def c4s(op:BinOp)(k:IntKind)(x:Int)(k':IntKind)(y:Int):Mf P (Op.shift op k x k' y):=by
 try unfold Op.shift
 repeat' first|split|trivial
def D4(op:BinOp)(x y:ByteArray):Mf P (Op.stringOp op x y):=by
 try unfold Op.stringOp
 repeat' first|split|trivial
def UX(op:BinOp)(k:FloatKind)(x y:Nat):Mf P (Op.floatArith op k x y):=by
 try unfold Op.floatArith
 repeat' first|with_reducible (first|exact D5 _|exact o8 _|exact P9 _|refine l7 ?_ λ_=>?_)|split|dsimp
def N1(op:BinOp)(k:FloatKind)(x y:Nat):Mf P (Op.floatCmp op k x y):=by
 try unfold Op.floatCmp
 repeat' first|split|trivial
def b1P(k:FloatKind)(b:Nat)(d:IntKind):Mf P (Conv.floatToInt k b d):=by
 try unfold Conv.floatToInt
 repeat' first|with_reducible (first|exact o8 _|exact P9 _|refine l7 ?_ λ_=>?_)|split
def Hj(k:FloatKind)(b:Nat)(d:FloatKind):Mf P (Conv.floatToFloat k b d):=by
 try unfold Conv.floatToFloat
 repeat' first|with_reducible (first|exact o8 _|exact P9 _|refine l7 ?_ λ_=>?_|refine O1 _ ?_ ?_)|split
def Ad(a:FloatKind)(x:Nat)(b:FloatKind):Mf P (Op.Complex.conv a x b):=by
 try unfold Op.Complex.conv
 repeat' first|with_reducible (first|exact D5 _|exact o8 _|exact Hj _ _ _|refine l7 ?_ λ_=>?_)|split
def Ju(op:BinOp)(k:FloatKind)(x y:Nat):Mf P (Op.Complex.arith op k x y):=by
 try unfold Op.Complex.arith
 repeat' first|with_reducible (first|exact D5 _|exact o8 _|exact UX _ _ _ _|refine l7 ?_ λ_=>?_)|split
def tB(op:BinOp)(k:FloatKind)(x y:Nat):Mf P (Op.Complex.cmp op k x y):=by
 try unfold Op.Complex.cmp
 repeat' first|with_reducible (first|exact bA _|exact N1 _ _ _ _|refine l7 ?_ λ_=>?_)
def Dp(x y:Nat):Mf P (Op.Complex.mul x y):=Ju _ _ _ _
def tA(x y:Nat):Mf P (Op.Complex.add x y):=Ju _ _ _ _
def tw(x y:Nat):Mf P (Op.Complex.sub x y):=Ju _ _ _ _
def c6M(x y:Nat):Mf P (Op.Complex.quo x y):=Ju _ _ _ _
def b7G(a b c d:Nat):Mf P (Op.Complex.product a b c d):=l7 (Dp _ _) λ_=>l7 (Dp _ _) λ_=>l7 (tw _ _) λ_=>l7 (Dp _ _) λ_=>l7 (Dp _ _) λ_=>l7 (tA _ _) λ_=>trivial
def b4l(s a b c d:Nat):Mf P (Op.Complex.corrected s a b c d):=l7 (Dp _ _) λ_=>l7 (Dp _ _) λ_=>l7 (tA _ _) λ_=>l7 (Dp _ _) λ_=>l7 (Dp _ _) λ_=>l7 (Dp _ _) λ_=>l7 (tw _ _) λ_=>l7 (Dp _ _) λ_=>trivial
def b5G(a b c d:Nat):Mf P (Op.Complex.quotient a b c d):=by
 unfold Op.Complex.quotient;dsimp only
 repeat' first
  | with_reducible exact o8 _
  | with_reducible exact b4l _ _ _ _ _
  | with_reducible refine l7 (tB _ _ _ _) λ_=>?_
  | with_reducible refine l7 (Dp _ _) λ_=>?_
  | with_reducible refine l7 (tA _ _) λ_=>?_
  | with_reducible refine l7 (tw _ _) λ_=>?_
  | with_reducible refine l7 (c6M _ _) λ_=>?_
  | with_reducible refine l7 (o8 _) λ_=>?_
  | split
def b4m(op:BinOp)(k:FloatKind)(a b c d:Nat):Mf P (Op.complexOp op k a b c d):=by
 unfold Op.complexOp;split
 ·exact l7 (Ju _ _ _ _) λ_=>l7 (Ju _ _ _ _) λ_=>trivial
 ·exact l7 (Ju _ _ _ _) λ_=>l7 (Ju _ _ _ _) λ_=>trivial
 ·refine l7 (Ad _ _ _) λ_=>l7 (Ad _ _ _) λ_=>l7 (Ad _ _ _) λ_=>l7 (Ad _ _ _) λ_=>l7 ?_ λ_=>l7 (Ad _ _ _) λ_=>l7 (Ad _ _ _) λ_=>trivial;first|exact b7G _ _ _ _|assumption
 refine l7 (Ad _ _ _) λ_=>l7 (Ad _ _ _) λ_=>l7 (Ad _ _ _) λ_=>l7 (Ad _ _ _) λ_=>l7 ?_ λ_=>l7 (Ad _ _ _) λ_=>l7 (Ad _ _ _) λ_=>trivial;first|rfl|exact b5G _ _ _ _
 exact l7 (tB _ _ _ _) λ_=>l7 (tB _ _ _ _) λ_=>trivial
 trivial
 trivial
def c4t(op:UnOp)(x:aX):Mf P (Op.unary op x):=by
 try unfold Op.unary
 repeat' first|split|trivial
def b0M{a b:Option Addr}:Mf P (samePointer a b):=by
 try unfold samePointer
 repeat' first|with_reducible (first|exact o8 _|exact Of)|split
def b7H :∀(n:Nat)(t:bT)(x y:aX),  Mf P (Op.equalIn n t x y):=by
 intro n
 induction n with
 | zero=>intros;trivial
 | succ n ih=>
  intros;try unfold Op.equalIn
  repeat' first|assumption|with_reducible (first|exact D5 _|refine wR _ ?_|exact o8 _|exact ih _ _ _|exact P9 _|exact y9 _|exact J7 _|exact O4 _|exact cr _|exact Et _ _|exact J3 _|exact Hv|exact Of|exact br|exact b0M|refine V9 ?_|refine l7 ?_ λ_=>?_|refine O1 _ ?_ ?_|refine Qr _ λ_ _=>?_|refine bB _ λ_ _=>?_)|split|dsimp only|exact trivial
def vA(t:bT):Mf P (Op.equal t x y):=by
 try unfold Op.equal
 repeat' first|with_reducible exact b7H _ _ _ _
def b4n :∀(n:Nat)(t:bT)(x y:aX),  Mf P (Op.eqGuardIn n t x y):=by
 intro n
 induction n with
 | zero=>intros;trivial
 | succ n a=>
  intros;try unfold Op.eqGuardIn
  repeat' first|assumption|with_reducible (first|refine wR _ ?_|exact o8 _|exact a _ _ _|exact y9 _|exact O4 _|exact Et _ _|refine l7 ?_ λ_=>?_|refine O1 _ ?_ ?_|refine Qr _ λ_ _=>?_|refine bB _ λ_ _=>?_)|split|dsimp|assumption
def b7I(op:BinOp)(t:bT)(x y:Operand){a b:aX}:Mf P (eqGuard op t x y a b):=by
 try unfold eqGuard
 repeat' first|rfl|with_reducible (first|rfl|rfl|exact b4n _ _ _ _|rfl|refine l7 ?_ λ_=>?_)|split|trivial
def b1Q(ts:Array TypeId)(t:bT){a:Option Addr}(y:aX):Mf P (Builtin.unsafeAdd_ ts t #[.pointer a,y]):=by unfold Builtin.unsafeAdd_;refine l7 (Qh _) λn=>?_;repeat' first|assumption|with_reducible (first|assumption|exact o8 _|exact zo _|exact Qh _|exact zj|rfl|refine l7 ?_ λ_=>?_|rfl)|split|dsimp|trivial
def UB(ts:Array TypeId)(t:bT){args:dU}:Mf P (Builtin.unsafeAdd_ ts t args):=by
 let⟨l⟩:=args;obtain _|⟨x,_|⟨y,_|⟨z,l⟩⟩⟩:=l
 trivial
 trivial
 cases x with
 | pointer=>exact b1Q ts t y
 | _=>trivial
 trivial
def b0O(t:bT):Mf P (movedNumber t x y):=by
 try unfold movedNumber
 repeat' first|assumption|with_reducible (first|assumption|exact o8 _|exact y9 _|exact Hv|exact On _|exact UB _ _|refine l7 ?_ λ_=>?_|rfl)|split|trivial
def a9v(t:bT):Mf P (movedPointer t x y):=by
 try unfold movedPointer
 repeat' first|rfl|with_reducible (first|rfl|exact OK|exact UB _ _|refine l7 ?_ λ_=>?_)|split|trivial
def Up:Mf P (Op.twoPlaces a b):=by
 try unfold Op.twoPlaces
 repeat' first|with_reducible (first|exact br|refine l7 ?_ λ_=>?_|refine O1 _ ?_ ?_)|trivial
def b7J(k:IntKind):Mf P (Op.addrSub k a b):=by
 try unfold Op.addrSub
 repeat' first|with_reducible (first|exact o8 _|exact Up|refine l7 ?_ λ_=>?_)
def b7K(op:BinOp):Mf P (Op.addrCmp op a b):=by
 try unfold Op.addrCmp
 repeat' first|with_reducible (first|exact Up|refine l7 ?_ λ_=>?_)|split|trivial
def b7L(k:IntKind)(n:Int):Mf P (Op.addrMod k a n):=by
 try unfold Op.addrMod
 repeat' first|with_reducible (first|exact zo _|exact J7 _|exact br|refine l7 ?_ λ_=>?_|refine O1 _ ?_ ?_)|split|trivial
def c4u(op:BinOp)(t:bT):Mf P (binOp op t x y):=by
 try unfold binOp
 repeat' first|assumption|with_reducible (first|exact D5 _|refine wR _ ?_|exact o8 _|exact y9 _|exact Hv|exact b5F _ _ _ _|exact b7F _ _ _ _|exact c07 _ _ _|exact c08 _ _ _ _|exact c4s _ _ _ _ _|exact D4 _ _ _|exact UX _ _ _ _|exact N1 _ _ _ _|exact b4m _ _ _ _ _ _|exact vA _|exact b0O _|exact a9v _|exact b7J _|exact b7K _|exact b7L _ _|refine l7 ?_ λ_=>?_|refine O1 _ ?_ ?_)|split|dsimp only|exact trivial
def a8i:Mf P (Conv.bytesToString x):=by
 try unfold Conv.bytesToString
 repeat' first|with_reducible (first|exact D5 _|exact o8 _|exact cP _|refine l7 ?_ λ_=>?_|refine Qr _ λ_ _=>?_)|split
def a8j:Mf P (Conv.runesToString x):=by
 try unfold Conv.runesToString
 repeat' first|with_reducible (first|exact D5 _|exact o8 _|exact cP _|refine l7 ?_ λ_=>?_|refine Qr _ λ_ _=>?_)|split
def a8k(e:bT)(s:ByteArray):Mf P (Conv.stringToBytes e s):=by
 try unfold Conv.stringToBytes
 repeat' first|with_reducible (first|exact o8 _|exact P9 _|exact ML _|exact a3X _|refine l7 ?_ λ_=>?_)
def a8l(e:bT)(s:ByteArray):Mf P (Conv.stringToRunes e s):=by
 try unfold Conv.stringToRunes
 repeat' first|with_reducible (first|exact o8 _|exact P9 _|exact ML _|refine l7 ?_ λ_=>?_)
def c09:Mf P (Conv.seenAt a):=by
 try unfold Conv.seenAt
 repeat' first|assumption|with_reducible (first|exact o8 _|exact zo _|exact zj|refine l7 ?_ λ_=>?_|rfl)|split|trivial
def a8m(t u:bT):Mf P (Conv.unsafePointer t u x):=by
 try unfold Conv.unsafePointer
 repeat' first|assumption|with_reducible (first|exact D5 _|refine wR _ ?_|exact o8 _|exact Xk|exact zo _|exact y9 _|exact O4 _|exact On _|exact b7y|exact b0L _ _ _|exact c09|refine V9 ?_|refine l7 ?_ λ_=>?_)|split|dsimp|trivial
def a5R(s:FloatKind)(a b:Nat)(k:FloatKind):Mf P (Conv.complexToComplex s a b k):=by unfold Conv.complexToComplex;repeat' first|with_reducible (first|exact D5 _|exact o8 _|exact Hj _ _ _|refine l7 ?_ λ_=>?_)|split
def b7M(t u:bT):Mf P (convert t u x):=by
 unfold convert
 repeat' first
  | with_reducible exact a5R _ _ _ _
  | assumption|with_reducible (first|exact D5 _|refine wR _ ?_|exact o8 _|exact y9 _|exact a3X _|exact b1P _ _ _|exact Hj _ _ _|exact a8i|exact a8j|exact a8k _ _|exact a8l _ _|exact a8m _ _|refine l7 ?_ λ_=>?_)|split|dsimp|trivial
def D1(em:Bool):∀(n:Nat)(t:bT)(v:aX), Mf P (Instr.checkKey em n t v):=by
 intro n
 induction n with
 | zero=>
  intros;try unfold Instr.checkKey
  repeat' first|assumption|with_reducible (first|exact D5 _|refine wR _ ?_|exact o8 _|exact y9 _|exact J7 _|exact O4 _|exact cr _|exact Et _ _|exact J3 _|refine l7 ?_ λ_=>?_|refine O1 _ ?_ ?_|refine Qr _ λ_ _=>?_|refine bB _ λ_ _=>?_)|split|dsimp only|exact trivial
 | succ n ih=>
  intros;try unfold Instr.checkKey
  repeat' first|assumption|with_reducible (first|exact D5 _|refine wR _ ?_|exact o8 _|exact ih _ _|exact y9 _|exact J7 _|exact O4 _|exact cr _|exact Et _ _|exact J3 _|refine l7 ?_ λ_=>?_|refine O1 _ ?_ ?_|refine Qr _ λ_ _=>?_|refine bB _ λ_ _=>?_)|split|dsimp only|exact trivial
def b1R(t:bT):∀(l:List MapEntry)(i:Nat), Mf P (Instr.findAsking t k l i):=by
 intro l
 induction l with
 | nil=>
  intros;try unfold Instr.findAsking
  repeat' first|assumption|with_reducible (first|exact o8 _|exact vA _|refine l7 ?_ λ_=>?_|refine O1 _ ?_ ?_)|split|dsimp only|exact trivial
 | cons x l ih=>
  intros;try unfold Instr.findAsking
  repeat' first|assumption|with_reducible (first|exact o8 _|exact ih _|exact vA _|refine l7 ?_ λ_=>?_|refine O1 _ ?_ ?_)|split|dsimp only|exact trivial
def Bt(t:bT){l:List MapEntry}:Mf P (Instr.findKey t k l):=by
 try unfold Instr.findKey
 repeat' first|assumption|with_reducible (first|exact o8 _|exact y9 _|exact b1R _ _ _|refine l7 ?_ λ_=>?_)|split|dsimp only|exact trivial
def c1b(t:bT){i:aX}(ok:Bool):Mf P (Instr.lookup t x i ok):=by
 try unfold Instr.lookup
 repeat' first|assumption|with_reducible (first|exact D5 _|exact o8 _|exact Du|exact y9 _|exact X7 _|exact D1 _ _ _ _|exact Bt _|refine l7 ?_ λ_=>?_)|split|dsimp only|exact trivial
def a9w{a b:aX}:Mf P (Instr.keyThatStays a b):=by
 try unfold Instr.keyThatStays
 repeat' first|assumption|with_reducible (first|exact o8 _|exact P9 _|refine l7 ?_ λ_=>?_|refine O1 _ ?_ ?_)|split|dsimp only|exact trivial
def TZ(t:bT){m:aX}:Mf P (Instr.mapUpdate t m k v):=by
 try unfold Instr.mapUpdate
 repeat' first|assumption|with_reducible (first|exact D5 _|exact Du|exact zp|exact y9 _|exact J3 _|exact D1 _ _ _ _|exact Bt _|exact a9w|refine l7 ?_ λ_=>?_)|split|dsimp only|exact trivial
def c1c(ts:Array TypeId)(t:bT){args:dU}:Mf P (Builtin.delete_ ts t args):=by
 try unfold Builtin.delete_
 repeat' first|assumption|with_reducible (first|exact D5 _|exact o8 _|exact Du|exact zp|exact y9 _|exact D1 _ _ _ _|exact Bt _|refine l7 ?_ λ_=>?_)|split|dsimp only|exact trivial
def c4v(t:bT):Mf P (Instr.range t x):=by
 try unfold Instr.range
 repeat' first|assumption|with_reducible (first|exact D5 _|exact o8 _|exact Xk|exact Du|exact y9 _|refine l7 ?_ λ_=>?_)|split|dsimp only|exact trivial
def c6N(s:Bool)(t:bT):Mf P (Instr.next x s t):=by
 try unfold Instr.next
 repeat' first|assumption|with_reducible (first|exact D5 _|refine wR _ ?_|exact o8 _|exact Du|exact zp|exact P9 _|refine l7 ?_ λ_=>?_|refine O1 _ ?_ ?_)|split|dsimp only|exact trivial
def c4w:Mf P (Instr.entry x):=by
 try unfold Instr.entry
 repeat' first|assumption|with_reducible (first|exact D5 _|refine wR _ ?_|exact o8 _|exact Du|refine l7 ?_ λ_=>?_|refine O1 _ ?_ ?_)|split|dsimp only|exact trivial
def G4(a:Addr)(n:Nat):Mf P (Builtin.holdsCells a n):=by
 try unfold Builtin.holdsCells
 repeat' first|assumption|with_reducible (first|exact o8 _|exact zo _|refine l7 ?_ λ_=>?_)|split|dsimp only|exact trivial
def vu(x:aX):Mf P (Builtin.lenOf x):=by
 try unfold Builtin.lenOf
 repeat' first|assumption|with_reducible (first|exact D5 _|exact o8 _)|split|dsimp only|exact trivial
def dy(size n:Nat):Mf P (Builtin.firstCells size n x):=by
 try unfold Builtin.firstCells
 repeat' first|assumption|with_reducible (first|exact D5 _|exact o8 _|exact cP _)|split|dsimp only|exact trivial
def NN(size l n:Nat)(base:Option Addr)(x:aX):Mf P (Builtin.mayShare size l n base x):=by
 try unfold Builtin.mayShare
 repeat' first|assumption|with_reducible (first|exact o8 _|exact zw _|exact G4 _ _|refine l7 ?_ λ_=>?_|refine O1 _ ?_ ?_)|split|dsimp only|exact trivial
def NL(zeros:Bool)(size n:Nat)(elem:bT):Mf P (if (!zeros)=true then Builtin.firstCells size n x else if n*size=0 then pure #[] else do pure (Builtin.zeroCells (<-zeroValue elem).cells n)):=by repeat' first|assumption|with_reducible (first|exact o8 _|exact X7 _|exact dy _ _|refine l7 ?_ λ_=>?_|refine O1 _ ?_ ?_)|split|dsimp only|exact trivial
def c1d(ts:Array TypeId)(t:bT){args:dU}:Mf P (Builtin.append_ ts t args):=by
 unfold Builtin.append_;split
 case h_2=>exact trivial
 refine l7 (y9 _) λd=>?_;split
 case h_2=>exact trivial
 repeat' first
  | with_reducible exact o8 _
  | with_reducible exact D5 _
  | with_reducible refine wR _ ?_
  | with_reducible exact y9 _
  | with_reducible refine l7 (y9 _) λ_=>?_
  | with_reducible exact O4 _
  | with_reducible refine l7 (O4 _) λ_=>?_
  | with_reducible exact J7 _
  | with_reducible refine l7 (J7 _) λ_=>?_
  | with_reducible exact Qh _
  | with_reducible refine l7 (Qh _) λ_=>?_
  | with_reducible exact vu _
  | with_reducible refine l7 (vu _) λ_=>?_
  | with_reducible exact P9 _
  | with_reducible refine l7 (P9 _) λ_=>?_
  | with_reducible exact Bw _
  | with_reducible refine l7 (Bw _) λ_=>?_
  | with_reducible exact NN _ _ _ _ _
  | with_reducible refine l7 (NN _ _ _ _ _) λ_=>?_
  | with_reducible exact X7 _
  | with_reducible refine l7 (X7 _) λ_=>?_
  | with_reducible exact dy _ _
  | with_reducible refine l7 (dy _ _) λ_=>?_
  | with_reducible exact cV _ _
  | with_reducible refine l7 (cV _ _) λ_=>?_
  | with_reducible exact ML _
  | with_reducible refine l7 (ML _) λ_=>?_
  | with_reducible exact J3 _
  | with_reducible refine l7 (J3 _) λ_=>?_
  | with_reducible exact NL _ _ _ _
  | with_reducible refine l7 (NL _ _ _ _) λ_=>?_
  | with_reducible exact G4 _ _
  | with_reducible refine l7 (G4 _ _) λ_=>?_
  | with_reducible refine l7 c0X λ_=>?_
  | with_reducible refine l7 (o8 _) λ_=>?_
  | with_reducible refine l7 (O1 _ (J3 _) ?_) λ_=>?_
  | with_reducible refine l7 ?_ λ_=>?_
  | with_reducible refine O1 _ ?_ ?_
  | split
  | dsimp only
  | exact trivial
def c6O(ts:Array TypeId)(t:bT){args:dU}:Mf P (Builtin.copy_ ts t args):=by
 try unfold Builtin.copy_
 repeat' first|assumption|with_reducible (first|exact D5 _|exact o8 _|exact y9 _|exact O4 _|exact cV _ _|exact vu _|exact dy _ _|refine l7 ?_ λ_=>?_)|split|dsimp only|exact trivial
def c8B(ts:Array TypeId)(t:bT){args:dU}:Mf P (Builtin.len_ ts t args):=by
 try unfold Builtin.len_
 repeat' first|assumption|with_reducible (first|exact D5 _|exact o8 _|exact Du|exact y9 _|refine l7 ?_ λ_=>?_)|split|dsimp only|exact trivial
def c8C(ts:Array TypeId)(t:bT){args:dU}:Mf P (Builtin.cap_ ts t args):=by
 try unfold Builtin.cap_
 repeat' first|assumption|with_reducible (first|exact D5 _|exact o8 _|exact Du|exact y9 _|refine l7 ?_ λ_=>?_)|split|dsimp only|exact trivial
def c6P(x y:aX):Mf P (Builtin.max2 x y):=by
 try unfold Builtin.max2
 repeat' first|assumption|with_reducible (first|exact D5 _|refine wR _ ?_|exact o8 _|exact P9 _|exact bA _|exact D4 _ _ _|refine l7 ?_ λ_=>?_)|split|dsimp only|exact trivial
def c6Q(x y:aX):Mf P (Builtin.min2 x y):=by
 try unfold Builtin.min2
 repeat' first|assumption|with_reducible (first|exact D5 _|refine wR _ ?_|exact o8 _|exact P9 _|exact bA _|exact D4 _ _ _|refine l7 ?_ λ_=>?_)|split|dsimp only|exact trivial
def c8D(ts:Array TypeId)(t:bT){args:dU}:Mf P (Builtin.max_ ts t args):=by
 try unfold Builtin.max_
 repeat' first|assumption|with_reducible (first|exact D5 _|exact c6P _ _|refine Cf _ (λ_ _=>?_) _ _)|split|dsimp only|exact trivial
def c8E(ts:Array TypeId)(t:bT){args:dU}:Mf P (Builtin.min_ ts t args):=by
 try unfold Builtin.min_
 repeat' first|assumption|with_reducible (first|exact D5 _|exact c6Q _ _|refine Cf _ (λ_ _=>?_) _ _)|split|dsimp only|exact trivial
def Zr(t:bT){x:Place}:Mf P (x.get t):=by unfold Place.get;repeat' first|assumption|with_reducible (first|exact o8 _|exact MI _)|split|dsimp only|exact trivial
def c1e :∀(l:List FieldStep)(t:bT)(x:Place), Mf P (follow l t x):=by
 intro l
 induction l with
 | nil=>
  intros;try unfold follow
  repeat' first|assumption|with_reducible (first|exact D5 _|exact o8 _|exact y9 _|exact Et _ _|exact Xj|exact Hh _|exact Zr _|refine l7 ?_ λ_=>?_|refine O1 _ ?_ ?_)|split|dsimp only|exact trivial
 | cons x l ih=>
  intros;try unfold follow
  repeat' first|assumption|with_reducible (first|exact D5 _|exact o8 _|exact ih _ _|exact y9 _|exact Et _ _|exact Xj|exact Hh _|exact Zr _|refine l7 ?_ λ_=>?_|refine O1 _ ?_ ?_)|split|dsimp only|exact trivial
def c6R(t u:bT)(a b:String):Mf P (Builtin.ssaWrapNilChk_ #[t] u #[v,strVal a,strVal b]):=by
 unfold Builtin.ssaWrapNilChk_
 cases v with
 | pointer p=>
  cases p with
  | some p=>exact trivial
  | none=>
   refine l7 (P9 (.extern "ssa:wrapnilchk.dereferenced" 2)) λc=>?_;dsimp only
   repeat' first|assumption|with_reducible (first|exact D5 _|refine wR _ ?_|exact P9 _|exact y9 _|exact J7 _|exact J3 _|refine l7 ?_ λ_=>?_|refine O1 _ ?_ ?_)|split|dsimp only|exact trivial
 | _=>exact trivial
def b1S(t:bT){x:Place}(pr:Bool)(w:Option String):Mf P (receiverAt t x pr w):=by
 try unfold receiverAt
 repeat' first|assumption|with_reducible (first|exact D5 _|exact o8 _|exact y9 _|exact MI _|exact Xj|exact Zr _|exact c6R _ _ _ _|refine l7 ?_ λ_=>?_)|split|dsimp only|exact trivial
def Wl :∀(l:List FieldStep)(t:bT)(x:Option Value),Mf P (followBlind l t x):=by
 intro l
 induction l with
 | nil=>
  intros;try unfold followBlind
  repeat' first|assumption|with_reducible (first|exact D5 _|exact o8 _|exact y9 _|exact Et _ _|refine l7 ?_ λ_=>?_)|split|dsimp only|exact trivial
 | cons x l ih=>
  intros;try unfold followBlind
  repeat' first|assumption|with_reducible (first|exact D5 _|exact o8 _|exact ih _ _|exact y9 _|exact Et _ _|refine l7 ?_ λ_=>?_)|split|dsimp only|exact trivial
def b5H{name:String}:∀(n:Nat)(t:bT)(v:aX), Mf P (nilAhead n t v name):=by
 intro n
 induction n with
 | zero=>
  intros;try unfold nilAhead
  repeat' first|assumption|with_reducible (first|exact D5 _|exact o8 _|exact y9 _|exact J7 _|exact Wl _ _ _|refine l7 ?_ λ_=>?_)|split|dsimp only|exact trivial
 | succ n ih=>
  intros;try unfold nilAhead
  repeat' first|assumption|with_reducible (first|exact D5 _|exact o8 _|exact ih _ _|exact y9 _|exact J7 _|exact Wl _ _ _|refine l7 ?_ λ_=>?_)|split|dsimp only|exact trivial
end
end
section
open Zn (iG)
variable{P:Program}
def bN:Builtin->Bool
 | .append|.cap|.copy|.delete|.len|.max|.min|.panic=>true
 | _=>false
structure m_ where
 F:FuncId->Prop
 N:String->Prop
def tg(D:m_):Callee->Prop
 | .value (.func f)=>D.F f
 | .invoke _ n=>D.N n
 | .builtin b=>bN b=true
 | _=>False
def eC(D:m_):Op->Prop
 | .call c=>tg D c.callee
 | .go _|.defer _|.send .. | .recv .. | .select .. | .makeChan .. | .ready _|.waits _|.mapEntry .. | .entryStore .. | .sliceToArrayPointer ..=>False
 | _=>True
def LM(D:m_):Next->Prop
 | .value _=>True
 | .skip=>True
 | .enter f _=>D.F f
 | _=>False
structure PN(D:m_)(P:Program):Prop where
 methods:∀t i,P.info? t=some i->∀m∈i.methods,D.N m.name->∀f p,m.func=some (f,p)->D.F f
 num:∀f fn,D.F f->P.funcs[f]?=some fn->(fn.name== "runtime.NumGoroutine")=false
 ext:∀f fn,D.F f->P.funcs[f]?=some fn->fn.body=none->Extern.findNext fn=none/\∀e args,Extern.find fn=some e->Mf P (e args)
variable{D:m_}
def nV{s:Sem Value}(h:Mf P s):Nf P (LM D) (do pure (.value (<-s))):=.bind h λ_ _=>trivial
def qd{s:Sem Unit}(h:Mf P s):Nf P (LM D) (do s;pure .skip):=.bind h λ_ _=>trivial
def ew{Q:α->Prop}(e:RuntimeError):Nf P Q (runtimePanic e:Sem α):=by
 refine Nf.bind rfl ?_;rintro p rfl;dsimp
 split<;>first
  | trivial
  | exact Nf.bind (zm _) λ_ _=>Nf.bind (Qq _) λ_ _=>trivial
def b7O(b:Builtin)(hb:bN b=true)(ts:Array TypeId)(t:bT)(cs:Array Bool){args:dU}:Nf P (LM D) (builtin b ts t cs args):=by
 unfold builtin
 cases b<;>first
  | exact nV (c1d _ _)
  | exact nV (c8C _ _)
  | exact nV (c6O _ _)
  | exact nV (c1c _ _)
  | exact nV (c8B _ _)
  | exact nV (c8D _ _)
  | exact nV (c8E _ _)
  | exact nV (uk _)
  | cases hb
def M'(i:PN D P){f:FuncId}(g:D.F f){args:dU}:Nf P (LM D) (callFunc f args):=by
 refine Nf.bind (R:=λp=>p=P) rfl ?_;rintro p rfl
 cases b:p.funcs[f]? with
 | none=>trivial
 | some d=>
  dsimp;rw[i.num f d g b];cases j:d.body with
  | some=>trivial
  | none=>
   let⟨m,l⟩:=i.ext f d g b j;refine Nf.bind (R:=λ_=>True) ⟨trivial,trivial⟩ λ_ _=>?_
   cases h:Extern.findNext d with
   | some=>grind
   | none=>
    cases k:Extern.find d with
    | some e=>exact Nf.bind (l e _ k) λv n=>trivial
    | none=>dsimp;split<;>exact trivial
def c1i(l:PN D P){name:String}(k:D.N name):∀(n:Nat)(t:bT)(v:aX),Nf P (λr=>D.F r.1) (method n t v name):=by
 intro n
 induction n with
 | zero=>intro t v;trivial
 | succ n g=>
  intro t v;unfold method;refine Nf.bind (R:=λi=>P.info? t=some i) ?_ λi e=>?_
  unfold typeInfo;refine Nf.bind rfl ?_;rintro p rfl;split
  assumption
  trivial
  split
  rename_i m d;have a:m.name=name:=fU
  refine Nf.bind (c1e _ _ _) λr _=>?_;dsimp;split
  refine Nf.bind (Zr _) λw _=>?_;split
  apply g
  apply ew
  trivial
  rename_i f j h;exact Nf.bind (b1S _ _ _) λw _=>l.methods t i e m (NV d) (a▸k) f j h
  trivial
def b1T(b:PN D P)(a:aX){name:String}(c:D.N name){args:dU}:Nf P (LM D) (callMethod a name args):=by
 cases a with
 | iface=>refine Nf.bind (R:=λ_=>True) trivial λp _=>Nf.bind (c1i b c _ _ _) λr d=>?_;exact M' b d
 | _=>trivial
def c1j(E:PN D P){ρ:Operand->Value}{o:Oper}(g:eC D o.op)(q:∀f,ρ (.func f)=.func (.func f) #[] #[]):Nf P (LM D) (execOp ρ o):=by
 obtain⟨I,A,B,H,p,guard⟩:=o;dsimp only at g;unfold execOp
 cases A with
 | move x=>exact trivial
 | assign x=>exact trivial
 | pick c a b=>exact Nf.bind (bA _) λ_ _=>trivial
 | alloc e=>exact nV<|c4n _
 | box e x=>exact nV<|c8A _
 | build t G=>exact nV<|c4o _
 | buildSlice t l G=>exact nV<|b1M _ _
 | load t a=>exact nV<|c06 _
 | store t a x=>exact qd<|b7z _
 | nilCheck x=>
  dsimp only;generalize ρ x=v
  repeat' first
   | exact trivial
   | exact ew _
   | refine Nf.bind (R:=λ_=>True) trivial λ_ _=>?_
   | refine Nf.bind (b5H _ _ _) λ_ _=>?_
   | split
 | binOp A t x y u=>exact nV<|l7 (b7I _ _ _ _) λ_=>c4u _ _
 | unOp A t x=>exact nV<|c4t _ _
 | convert s d x=>exact nV<|b7M _ _
 | makeInterface t x=>exact nV<|a8h _
 | makeFunc M f c=>exact nV b5C
 | makeMap t r=>exact nV<|b7D _ _
 | makeSlice t l c=>exact nV<|b4h _ _ _
 | slice t x l h m=>exact nV<|b7C _ _ _ _
 | fieldAddr s x f=>exact nV<|b7A _ _
 | field t x f=>exact nV<|c4q _ _
 | indexAddr t x i=>exact nV<|b7B _ _
 | index t x i=>exact nV<|c4r _ _
 | lookup t x i F=>exact nV<|c1b _ _
 | mapUpdate t m k x=>exact qd<|TZ _
 | insert t m k x=>exact qd<|TZ _
 | range t x=>exact nV<|c4v _
 | next x s=>exact nV<|c6N _ _
 | entry x=>exact nV c4w
 | typeAssert x t u F=>exact nV<|b1O _ _ _
 | extract x i=>exact nV<|b7E _
 | panic x=>exact nV<|uk _
 | call c=>
  replace g:tg D c.callee:=g;apply Nf.bind (R:=λd=>(∃f l,d.target=.fn (.func f) l/\D.F f)\/(∃n l,d.target=.fn (.method n) l/\D.N n)\/∃b z t w,d.target=.builtin b z t w/\bN b=true)
  unfold resolve;dsimp
  cases e:c.callee with
  | builtin b=>rw[e] at g;exact .inr<|.inr ⟨_,_,_,_,rfl,g⟩
  | invoke r n=>rw[e] at g;exact .inr<|.inl ⟨_,_,rfl,g⟩
  | value x=>
   rw[e] at g
   cases x with
   | func f=>
    dsimp;rw[q]
    exact .inl ⟨_,_,rfl,g⟩
   | _=>exact g.elim
  rintro⟨t,j⟩ (⟨f,l,rfl,L⟩|⟨n,l,rfl,J⟩|⟨b,z,t,w,rfl,K⟩)
  exact M' E L
  unfold invoke;dsimp
  cases e:j[0]? with
  | none=>exact trivial
  | some C=>exact b1T E _ J
  exact b7O b K z t w
 | _=>exact g.elim
end
section
open Zn (iG jg bind_ok WI)
variable{P:Program}
def tX(n:Nat)(e:Event):Prop:=
 match e.loc with
 | .cell a=>a.block<n
 | .obj r=>r<n
 | .mark m=>iG m
 | .output=>True
 | .goroutines=>False
def tX.mono(h:n<=m){e:Event}(k:tX n e):tX m e:=by unfold tX at *;grind
def t8(h:w.cell? a=some v):a.block<w.heap.size:=by
 unfold World.cell? at h
 grind
def c6S{l:List Addr}(h:w.farLoad P a d=.ok (v,l)):∀x∈l,x.block<w.heap.size:=by
 unfold World.farLoad at h
 cases m:w.heap[a.block]? with
 | none=>simp_all
 | some o=>
  rw[m] at h
  cases o with
  | view g u=>
   dsimp at h
   cases f:w.viewLoad P g u a d with
   | error=>simp_all
   | ok=>
    rw[f] at h;injection h with h;subst h;let⟨⟨c,e,t,i,k,j⟩,s,b⟩:=bind_ok f;dsimp at b;split at b
    injection b with b;injection b with b q;subst q;intro x n;obtain⟨y,-,rfl⟩:=aQ.1 n;exact(bn.1 (WI s)).1
    cases b
  | _=>cases h
def t7{w':aB}{l:List Addr}(h:w.farStore P a v i=.ok (w',l)):w'.heap.size=w/\∀x∈l,x.block<w.heap.size:=by
 unfold World.farStore at h
 cases p:w.heap[a.block]? with
 | none=>simp_all
 | some o=>
  rw[p] at h
  cases o with
  | view j u=>
   dsimp at h
   cases d:w.viewStore P j u a v i with
   | error x=>simp_all
   | ok r=>
    rw[d] at h;injection h with h;subst h;unfold World.viewStore at d;by_cases n:(!tight P P.depth u)=true
    rw[if_pos n] at d;cases d
    rw[if_neg n] at d;let⟨⟨c,e,E,m,g,k⟩,A,b⟩:=bind_ok d;dsimp at b;split at b
    case h_2=>cases b
    rename_i bytes t;by_cases q:some bytes.length≠g.bytes?.map (·.length)
    rw[if_pos q] at b;cases b
    rw[if_neg q] at b;let⟨D,C,f⟩:=bind_ok b;injection f with f;injection f with f s;subst f s;refine⟨aZ,λx B=>?_⟩;obtain⟨y,-,rfl⟩:=aQ.1 B
    exact(bn.1 (WI A)).1
  | _=>cases h
def Nf.low{Q:α->Prop}{s:Sem α}(h:Nf P Q s):∀{w w':aB}{es es':Array Event}{v:α},s.runT P w es=(.ok v w',es')->Q v/\w.heap.size<=w'/\((∀e∈es,tX w e)->∀e∈es',tX w' e):=by
 have t:∀{es:Array Event}{n:Nat}{x:Event},(∀e∈es,tX n e)->tX n x->∀e∈es.push x,tX n e:=λp f e i=>by
  rcases NU.1 i with i|rfl
  ·exact p e i
  ·exact f
 have A:∀{es:Array Event}{n:Nat}{l:List Addr}{b c:Bool},(∀e∈es,tX n e)->(∀x∈l,x.block<n)->∀e∈es++l.toArray.map (λx=>(⟨.cell x,b,c⟩:Event)),tX n e:=λp f e i=>by
  rcases dW.1 i with i|i
  ·exact p e i
  ·obtain⟨x,D,rfl⟩:=iT.1 i;exact f x (by simpa using D)
 induction s with
 | halt x=>intro w w' es es' v d;cases d
 | pure a=>
  intro w w' es es' v d;simp only[Sem.runT,XJ,Result.ok.injEq] at d;obtain⟨⟨rfl,rfl⟩,rfl⟩:=d
  exact⟨h,ak _,id⟩
 | load m a k j=>
  intro w w' es es' v d;simp only[Sem.runT] at d
  cases B:w.cell? a with
  | some x=>
   rw[B] at d;obtain⟨p,f,g⟩:=j x (h x) d
   exact⟨p,f,λi=>g (t i (t8 B))⟩
  | none=>
   rw[B] at d;dsimp only at d
   cases C:w.farLoad P a (m==.atomic) with
   | error x=>rw[C] at d;cases d
   | ok r=>
    obtain⟨x,l⟩:=r;rw[C] at d;obtain⟨p,f,g⟩:=j x (h x) d
    exact⟨p,f,λi=>g (A i (c6S C))⟩
 | store m a x k j=>
  intro w w' es es' v d
  have E:(Sem.store m a x k).runT P w es=match w.cell? a with
   | some _=>if w.frozen? a then(.halt (.unsupported (.unsafePointer "a write to bytes that a string shares")) w,es) else k.runT P (w.setCell a x) (es.push ⟨.cell a,true,m==.atomic⟩)
   | none=>match w.farStore P a x (m==.atomic) with
    | .ok (w,u)=>k.runT P w (es++u.toArray.map (⟨.cell ·,true,m==.atomic⟩))
    | .error h=>(.halt h w,es):=by
   cases x<;>first|rfl|(exfalso;cases d)
  rw[E] at d
  cases B:w.cell? a with
  | some y=>
   rw[B] at d;dsimp only at d;split at d
   ·cases d
   ·obtain⟨p,f,g⟩:=j h d;have z:(w.setCell a x).heap.size=w.heap.size:=IU
    rw[z] at f g
    exact⟨p,f,λi=>g (t i (t8 B))⟩
  | none=>
   rw[B] at d;dsimp only at d
   cases C:w.farStore P a x (m==.atomic) with
   | error y=>rw[C] at d;cases d
   | ok r=>
    obtain⟨H,l⟩:=r;rw[C] at d;obtain⟨p,f,g⟩:=j h d;obtain⟨z,F⟩:=t7 C;rw[z] at f g
    exact⟨p,f,λi=>g (A i F)⟩
 | new o k j=>
  intro w w' es es' v d;obtain⟨p,f,g⟩:=j _ (h _) (show(k w).runT P {w with heap:=w.heap.push o} es=_ from d);have z:(w.heap.push o).size=w+1:=jr _;dsimp only at f g;rw[z] at f g
  exact⟨p,aj,λi=>g λe D=>(i e D).mono aj⟩
 | shape r k j=>intro w w' es es' v d;exact j _ (h _) (show(k (w.shape? r)).runT P w es=_ from d)
 | freeze a n k j=>
  intro w w' es es' v d;obtain⟨p,f,g⟩:=j h (show k.runT P (w.freeze a n) es=_ from d);have z:(w.freeze a n).heap.size=w.heap.size:=by unfold World.freeze;split<;>simp
  rw[z] at f g
  exact⟨p,f,g⟩
 | frozen a k j=>intro w w' es es' v d;exact j _ (h _) (show(k (w.frozen? a)).runT P w es=_ from d)
 | getObj r k j=>
  intro w w' es es' v d;simp only[Sem.runT] at d;split at d
  ·cases d
  ·rename_i o I _;obtain⟨p,f,g⟩:=j o (h o) d;exact⟨p,f,λi=>g (t i (show r<_ from(bn.1 kT).1))⟩
  ·cases d
 | setObj r o k j=>
  intro w w' es es' v d;simp only[Sem.runT] at d;split at d
  ·cases d
  ·obtain⟨p,f,g⟩:=j h d;dsimp only at f g;rw[Array.size_setIfInBounds] at f g;exact⟨p,f,λi=>g (t i (show r<_ from(bn.1 kT).1))⟩
  ·cases d
 | choose q k j=>
  intro w w' es es' v d;simp only[Sem.runT] at d;split at d
  ·exact j _ (h _) d
  ·exact j _ (h _) (w:={w with drawn:=w.drawn+1}) d
 | sys c k j=>
  intro w w' es es' v d;obtain⟨rfl,G⟩:=h;obtain⟨p,f,g⟩:=j _ (G _) (show(k (w.sys .env).1).runT P (w.sys .env).2 (es.push ⟨.output,true,false⟩)=_ from d);have z:(w.sys .env).2.heap.size=w.heap.size:=rfl;rw[z] at f g
  exact⟨p,f,λi=>g (t i trivial)⟩
 | program k j=>intro w w' es es' v d;exact j P h (show(k P).runT P w es=_ from d)
 | mark m k j=>intro w w' es es' v d;obtain⟨p,f,g⟩:=j h.2 (show k.runT P w (es.push ⟨.mark m,false,true⟩)=_ from d);exact⟨p,f,λi=>g (t i h.1)⟩
def lY(w:aB)(b:Nat):Prop:=∃c e f,w.heap[b]?=some (.cells c e f)
def Rows(w w':aB):Prop:=w.heap.size<=w'/\∀b,lY w b->lY w' b
def Rows.refl(w:aB):Rows w w:=⟨ak _,λ_ h=>h⟩
def Rows.trans{a b c:aB}(h:Rows a b)(k:Rows b c):Rows a c:=⟨ay h.1 k.1,λx d=>k.2 x<|h.2 x d⟩
def b4t(w:aB)(a:Addr)(v:aX):Rows w (w.setCell a v):=by
 refine⟨IU,?_⟩;rintro b ⟨c,e,f,h⟩;unfold World.setCell lY;rw[bg,h];by_cases d:a.block=b
 rw[if_pos d];exact⟨_,_,_,rfl⟩
 grind
def b5M(w:aB)(a:Addr)(n:Nat):Rows w (w.freeze a n):=by
 refine⟨by unfold World.freeze;split<;>simp,?_⟩;rintro b ⟨c,e,f,h⟩;unfold World.freeze lY;split
 exact⟨_,_,_,h⟩
 dsimp;rw[bg,h];by_cases d:a.block=b
 rw[if_pos d];exact⟨_,_,_,rfl⟩
 grind
def c4z(w:aB)(o:Obj):Rows w {w with heap:=w.heap.push o}:=by refine⟨aZ,?_⟩;rintro b ⟨c,e,f,h⟩;have:=(bn.1 h).1;exact⟨c,e,f,by rw[fF,if_neg<|aj];exact h⟩
def tz(w:aB){a:Obj}(d:w.heap[r]?=some a)(g:∀c e f,a≠.cells c e f):Rows w {w with heap:=w.heap.setIfInBounds r o}:=by refine⟨aZ,?_⟩;rintro b ⟨c,e,f,h⟩;exact⟨c,e,f,fU⟩
def c4A{w':aB}{at_:Bool}{l:List Addr}(h:w.farStore P a v at_=.ok (w',l)):Rows w w':=by
 refine⟨fE (t7 h).1.symm,?_⟩;unfold World.farStore at h
 cases ho:w.heap[a.block]? with
 | none=>rw[ho] at h;cases h
 | some o=>
  rw[ho] at h
  cases o with
  | view at0 u=>
   dsimp only at h
   cases hv:w.viewStore P at0 u a v at_ with
   | error x=>rw[hv] at h;cases h
   | ok r=>
    rw[hv] at h;injection h with h;subst h;unfold World.viewStore at hv;by_cases ht:(!tight P P.depth u)=true
    ·rw[if_pos ht] at hv;cases hv
    ·rw[if_neg ht] at hv;obtain⟨⟨c,e,fr,first,like,cells⟩,h1,h2⟩:=bind_ok hv;dsimp only at h2;split at h2
     case h_2=>cases h2
     rename_i bytes hby;by_cases hl:some bytes.length≠like.bytes?.map (·.length)
     ·rw[if_pos hl] at h2;cases h2
     rw[if_neg hl] at h2;obtain⟨c',h4,h5⟩:=bind_ok h2;injection h5 with h5;injection h5 with h5 h6;subst h5 h6;rintro b ⟨c0,e0,f0,hb⟩;by_cases hx:at0.block=b
     ·subst hx;have hlt:=(bn.1 hb).1;exact⟨_,_,_,by show(w.heap.setIfInBounds at0.block _)[at0.block]?=_;rw[dP hlt]⟩
     ·exact⟨c0,e0,f0,by show(w.heap.setIfInBounds at0.block _)[b]?=_;rw[bf hx];exact hb⟩
  | _=>cases h
def Short(u:aB)(x:Halt):Prop:=jg x\/∃g,x=.unsupported (.initOrder g)/\¬lY u g
def d0k{α:Type}:Result α->World
 | .ok _ w=>w
 | .halt _ w=>w
def TE(w:aB)(a:Addr)(t:String):Short w (w.noCell a t):=by
 unfold World.noCell;split
 ·rename_i h;exact .inr ⟨_,rfl,λ⟨c,e,f,h'⟩=>by rw[h] at h';cases h'⟩
 ·exact .inl trivial
 ·exact .inl trivial
def c1k{b:Bool}{x:Halt}(h:w.farLoad P a b=.error x):Short w x:=by
 unfold World.farLoad at h;split at h
 ·split at h
  ·cases h
  ·injection h with h;subst h;exact .inl trivial
 ·injection h with h;subst h;exact TE _ _ _
def b7P{b:Bool}{x:Halt}(h:w.farStore P a v b=.error x):Short w x:=by
 unfold World.farStore at h;split at h
 ·split at h
  ·cases h
  ·injection h with h;subst h;exact .inl trivial
 ·injection h with h;subst h;exact TE _ _ _
def Nf.run{Q:α->Prop}{s:Sem α}(h:Nf P Q s):∀(w:aB)(es:Array Event),Rows w (d0k (s.runT P w es).1)/\∀x u,(s.runT P w es).1=.halt x u->Short u x:=by
 induction s with
 | halt x=>
  intro w es;refine⟨Rows.refl w,λy u e=>?_⟩;simp only[Sem.runT,Result.halt.injEq] at e;obtain⟨rfl,rfl⟩:=e
  exact .inl h
 | pure a=>intro w es;exact⟨Rows.refl w,λy u e=>by cases e⟩
 | load m a k ih=>
  intro w es;simp only[Sem.runT]
  cases hc:w.cell? a with
  | some x=>exact ih x (h x) w _
  | none=>
   dsimp only
   cases hf:w.farLoad P a (m==.atomic) with
   | error x=>
    refine⟨Rows.refl w,λy u e=>?_⟩;simp only[Result.halt.injEq] at e;obtain⟨rfl,rfl⟩:=e
    exact c1k hf
   | ok r=>exact ih _ (h _) w _
 | store m a x k ih=>
  intro w es
  have e1:(∃t,(Sem.store m a x k).runT P w es=(.halt (.stuck t) w,es))\/(Sem.store m a x k).runT P w es=match w.cell? a with
   | some _=>if w.frozen? a then(.halt (.unsupported (.unsafePointer "a write to bytes that a string shares")) w,es) else k.runT P (w.setCell a x) (es.push ⟨.cell a,true,m==.atomic⟩)
   | none=>match w.farStore P a x (m==.atomic) with
    | .ok (w,touched)=>k.runT P w (es++touched.toArray.map (⟨.cell ·,true,m==.atomic⟩))
    | .error h=>(.halt h w,es):=by
   cases x<;>first|exact .inl ⟨_,rfl⟩|exact .inr rfl
  rcases e1 with⟨t,e1⟩|e1
  ·rw[e1];exact⟨Rows.refl w,λy u e=>by simp only[Result.halt.injEq] at e;obtain⟨rfl,rfl⟩:=e;exact .inl trivial⟩
  rw[e1]
  cases hc:w.cell? a with
  | some y=>
   dsimp only;split
   ·exact⟨Rows.refl w,λy u e=>by simp only[Result.halt.injEq] at e;obtain⟨rfl,rfl⟩:=e;exact .inl trivial⟩
   ·obtain⟨h1,h2⟩:=ih h (w.setCell a x) (es.push ⟨.cell a,true,m==.atomic⟩)
    exact⟨(b4t w a x).trans h1,h2⟩
  | none=>
   dsimp only
   cases hf:w.farStore P a x (m==.atomic) with
   | error y=>
    exact⟨Rows.refl w,λz u e=>by
     simp only[Result.halt.injEq] at e;obtain⟨rfl,rfl⟩:=e
     exact b7P hf⟩
   | ok r=>
    obtain⟨h1,h2⟩:=ih h r.1 (es++r.2.toArray.map (⟨.cell ·,true,m==.atomic⟩))
    exact⟨(c4A hf).trans h1,h2⟩
 | new o k ih=>
  intro w es;obtain⟨h1,h2⟩:=ih _ (h w) {w with heap:=w.heap.push o} es
  exact⟨(c4z w o).trans h1,h2⟩
 | shape r k ih=>intro w es;exact ih _ (h _) w es
 | freeze a n k ih=>
  intro w es;obtain⟨h1,h2⟩:=ih h (w.freeze a n) es
  exact⟨(b5M w a n).trans h1,h2⟩
 | frozen a k ih=>intro w es;exact ih _ (h _) w es
 | getObj r k ih=>
  intro w es;simp only[Sem.runT];split
  ·exact⟨Rows.refl w,λz u e=>by simp only[Result.halt.injEq] at e;obtain⟨rfl,rfl⟩:=e;exact .inl trivial⟩
  ·exact ih _ (h _) w _
  ·exact⟨Rows.refl w,λz u e=>by
    simp only[Result.halt.injEq] at e;obtain⟨rfl,rfl⟩:=e
    exact .inl trivial⟩
 | setObj r o k ih=>
  intro w es;simp only[Sem.runT];split
  ·exact⟨Rows.refl w,λz u e=>by simp only[Result.halt.injEq] at e;obtain⟨rfl,rfl⟩:=e;exact .inl trivial⟩
  ·rename_i o' ho hn;obtain⟨h1,h2⟩:=ih h {w with heap:=w.heap.setIfInBounds r o} (es.push ⟨.obj r,true,o.isChan⟩);exact⟨(tz w hn λc e f he=>ho c e f he).trans h1,h2⟩
  ·exact⟨Rows.refl w,λz u e=>by
    simp only[Result.halt.injEq] at e;obtain⟨rfl,rfl⟩:=e
    exact .inl trivial⟩
 | choose q k ih=>
  intro w es;simp only[Sem.runT];split
  ·exact ih _ (h _) w es
  ·exact ih _ (h _) {w with drawn:=w.drawn+1} es
 | sys c k ih=>
  intro w es;obtain⟨rfl,hk⟩:=h
  exact ih _ (hk _) (w.sys .env).2 _
 | program k ih=>intro w es;exact ih P h w es
 | mark m k ih=>intro w es;exact ih h.2 w _
end
end Go.Nm
namespace Go.Zn
variable{l:iZ}{w:aB}{F:Frame}
section
variable{P:Program}
def Nx(P:Program)(fr:Frame)(l:iZ)(w:aB)(fr':Frame)(l':iZ)(w':aB)(es:Array Event):Prop:=
 ∀κ a,stepG P true (Gr fr l κ a) w=.go (Gr fr' l' κ a) w' es
inductive vK(P:Program)(Z:Zone)(Sh:Nat->Prop)(X:Tmp->Prop)(A:Frame->World->Prop):Frame->List Frame->World->Prop
 | stop (fr:Frame) (w:World) (hI:Inv Z Sh X fr [] w) (τ:Nat->Question->Nat) (p:Nat) (h:A (ext fr K0) (tp w τ p)):vK P Z Sh X A fr [] w
 | step (fr:Frame) (l:List Frame) (w:World) (hI:Inv Z Sh X fr l w) (F:(Nat->Question->Nat)->Nat->Frame) (L:(Nat->Question->Nat)->Nat->List Frame) (W:(Nat->Question->Nat)->Nat->World) (E:(Nat->Question->Nat)->Nat->Array Event)
  (h:∀τ p,Nx P fr l (tp w τ p) (F τ p) (L τ p) (W τ p) (E τ p))(hs:∀τ p,w.heap.size<=(W τ p).heap.size)
  (he:∀τ p,∀e∈E τ p,ku (Zf Z Sh (W τ p).heap.size) (W τ p).heap.size e)(k:∀τ p,vK P Z Sh X A (F τ p) (L τ p) (W τ p)):vK P Z Sh X A fr l w
def vK.inv{Z:Zone}{Sh:tyP}{X:Tmp->Prop}{A:Frame->World->Prop}{fr:Frame}(h:vK P Z Sh X A fr l w):Inv Z Sh X fr l w:=by cases h<;>assumption
def vK.of_next{Z:Zone}{Sh:tyP}{X:Tmp->Prop}{A:Frame->World->Prop}{fr:Frame}(hI:Inv Z Sh X fr l w)
 (h:∀τ p,∃fr' l' w' es,Nx P fr l (tp w τ p) fr' l' w' es/\w.heap.size<=w'/\(∀e∈es,ku (Zf Z Sh w') w' e)/\vK P Z Sh X A fr' l' w'):vK P Z Sh X A fr l w:=by
 have h1:=λτ p=>jk (h τ p);have h2:=λτ p=>jk (h1 τ p);have h3:=λτ p=>jk (h2 τ p);have h4:=λτ p=>jk (h3 τ p);exact .step fr l w hI _ _ _ _ (λτ p=>(h4 τ p).1) (λτ p=>(h4 τ p).2.1) (λτ p=>(h4 τ p).2.2.1) (λτ p=>(h4 τ p).2.2.2)
def c0:Frame:={fn:=0,tmps:=#[],todo:=K0,defers:=[{target:=.nil,args:=#[]}],mode:=.run,kind:=.normal}
def yX(A:Frame->World->Prop)(m:Machine):Prop:=∃F w,m=lone F [c0] w/\A F w
def Dead(P:Program)(A:Frame->World->Prop)(m:Machine):Prop:=∀i a,runN P i m=.next a->¬yX A a
section
variable{A:Frame->World->Prop}
theorem Dead.xH{m:Machine}(e:¬yX A m)(h:∀c,step P m=.next c->Dead P A c):Dead P A m:=by
 intro i c a
 cases i with
 | zero=>simp[runN] at a;simp_all
 | succ i=>
  simp[runN] at a
  cases d:step P m with
  | next b=>rw[d] at a;exact h b d i c a
  | ended=>grind
theorem Jo{F':Frame}{cs cs':iZ}{w':aB}(h:lone F cs w=lone F' cs' w'):F=F'/\cs=cs'/\w=w':=by unfold lone at h;grind
theorem Q8{cs:iZ}(c:¬yX A (lone F cs w)){s:GStep}(d:stepG P true {frame:=F,callers:=cs,status:=.running,dying:=none} w=s)(h:Stops s):Dead P A (lone F cs w):=by
 cases s<;>first|trivial|skip
 rename_i o b f;refine .xH c λe a=>?_;rw[step_lone_ended (o:=o) (w':=b) iL] at a;cases a
theorem Dn{F':Frame}{cs cs':iZ}{w':aB}{es:Array Event}(b:¬yX A (lone F cs w))(c:stepG P true {frame:=F,callers:=cs,status:=.running,dying:=none} w=.go {frame:=F',callers:=cs',status:=.running,dying:=none} w' es)
 (h:Dead P A (lone F' cs' w')):Dead P A (lone F cs w):=by
 refine .xH b λd a=>?_;rw[step_lone_go (fr':=F') (cs':=cs') (w':=w') iL] at a;grind
variable(hA:∀F w,A F w->∀c,F.mode≠.panicking c)
include hA
theorem Y0{cs:iZ}{c:List PanicEntry}(h:F.mode=.panicking c):¬yX A (lone F cs w):=by rintro⟨d,b,e,a⟩;obtain⟨rfl,-,-⟩:=Jo e;exact hA _ _ a c h
omit hA in
theorem cj:¬yX A (lone F [] w):=by rintro⟨F',w',e,ha⟩;obtain⟨-,h,-⟩:=Jo e;cases h
omit hA in
theorem Qw{cs:iZ}{c:List PanicEntry}(h:F.mode=.panicking c):stepG P true {frame:=F,callers:=cs,status:=.running,dying:=none} w=unwind P true F cs none w:=by unfold stepG;dsimp only;rw[h]
omit hA in
theorem G2{c:List PanicEntry}:Dead P A (lone (c0.raise c) [] w):=by refine Q8 cj (Qw (c:=c) rfl) ?_;unfold unwind c0 Frame.raise;dsimp only;unfold callDeferred;dsimp only;exact trivial
variable{Z:Zone}{Sh:Nat->Prop}{X:Tmp->Prop}
theorem C'(l:iZ)(g:∀(c:List PanicEntry)(w:aB),IX (Zf Z Sh w) X l->kH Z Sh w->match (generalizing:=false) low l K0 [c0] with
 | []=>True
 | x::r=>Dead P A (lone (x.raise c) r w)) (s:low l K0 [c0]≠[]):
 ∀(n:Nat)(fr:Frame)(w:aB)(c:List PanicEntry),fr.defers.length=n->fr.mode=.panicking c->jY (Zf Z Sh w) fr.defers->IX (Zf Z Sh w) X l->kH Z Sh w->
 Dead P A (lone (ext fr (kk l K0)) (low l K0 [c0]) w):=by
 intro n
 induction n with
 | zero=>
  intro fr w c i e q p o;have m:fr.defers=[]:=eJ.1 i;have a:=Qw (P:=P) (F:=ext fr (kk l K0)) (cs:=low l K0 [c0]) (w:=w) (c:=c) e;have z:=g c w p o
  cases f:low l K0 [c0] with
  | nil=>exact absurd f s
  | cons x r=>
   rw[f] at a z;by_cases D:(ext fr (kk l K0)).catches P=true
   ·refine Q8 (Y0 hA e) a ?_;unfold unwind;rw[show(ext fr (kk l K0)).defers=[] from m,show(ext fr (kk l K0)).mode=.panicking c from e];dsimp only;rw[if_pos D];trivial
   ·refine Dn (Y0 hA e) (F':=x.raise c) (cs':=r) (w':=w) (es:=#[]) (a.trans ?_) z;unfold unwind;rw[show(ext fr (kk l K0)).defers=[] from m,show(ext fr (kk l K0)).mode=.panicking c from e];dsimp only
    rw[if_neg D]
 | succ n J=>
  intro fr w c i e q p o;have a:=Qw (P:=P) (F:=ext fr (kk l K0)) (cs:=low l K0 [c0]) (w:=w) (c:=c) e
  cases b:fr.defers with
  | nil=>rw[b] at i;cases i
  | cons d C=>
   obtain⟨r,rfl,F⟩:=q d (by rw[b];simp);rcases both (λM H=>a4O (P:=P) (H.D _ F)) o with⟨v,u,B,E,G,t,rfl,k,h,I⟩|⟨x,L,B,E,G,t,K,h,k⟩
   ·have j:=t w.tape w.drawn λ_ _ _=>rfl;rw[jJ] at j;refine Dn (Y0 hA e) (F':=ext {fr with defers:=C} (kk l K0)) (cs':=low l K0 [c0]) (w':=tp u w.tape (w.drawn+E)) (es:=seen P fr.fn B++#[]) (a.trans ?_) (J {fr with defers:=C} _ c (by rw[b] at i;simpa using i) e (λd y=>?_) (p.mono (jE h)) (k.tp _ _))
    ·unfold unwind;rw[show(ext fr (kk l K0)).defers=_ from b];dsimp only;rw[j];rfl
    ·exact jY.mono (jE h) q d (by rw[b];exact eX _ y)
   ·have j:=t w.tape w.drawn λ_ _ _=>rfl;rw[jJ] at j;refine Q8 (Y0 hA e) a ?_;unfold unwind;rw[show(ext fr (kk l K0)).defers=_ from b];dsimp only;rw[j];trivial
theorem b8m:∀(l:iZ)(fr:Frame)(w:aB)(c:List PanicEntry),fr.mode=.panicking c->jY (Zf Z Sh w) fr.defers->IX (Zf Z Sh w) X l->kH Z Sh w->
 Dead P A (lone (ext fr (kk l K0)) (low l K0 [c0]) w):=by
 intro l
 induction l with
 | nil=>exactλfr w c d g a b=>C' hA [] (λc w _ _=>G2) (by simp[low]) _ fr w c rfl d g a b
 | cons x l i=>refineλfr w c d g a b=>C' hA _ (λc w a b=>?_) (by simp[low]) _ fr w c rfl d g a b;show Dead P A _;rw[MJ];let⟨h,e,f⟩:=raise_mode x c;exact i _ w h e (by rw[f];exact a.1.1.1.defers) a.2 b
theorem c1K{fr:Frame}(C:Inv Z Sh X fr [] w)(y:Stop fr [])(E:¬A (ext fr K0) w):Dead P A (lone (ext fr K0) [c0] w):=by
 have f:¬yX A (lone (ext fr K0) [c0] w):=by rintro⟨G,F,e,B⟩;obtain⟨rfl,-,rfl⟩:=Jo e;exact E B
 have s:∀(v:aX)(w:aB),Dead P A (lone (c0.finish v) [] w):=λv w=>Q8 cj rfl (trivial)
 obtain⟨c,m⟩|⟨c,t⟩:=y.2
 refine Q8 f rfl ?_;obtain⟨q,j,o,g,p,l,d⟩:=fr;dsimp at c m;subst c m;trivial
 have b:stepG P true {frame:=ext fr K0,callers:=[c0],status:=.running,dying:=none} w=unwind P true (ext fr K0) [c0] none w:=by unfold stepG;dsimp;rw[show(ext fr K0).mode=.returning from c]
 have h:(ext fr K0).defers=[]:=t;have i:(ext fr K0).mode=.returning:=c;have k:(ext fr K0).kind=.normal:=C.fr.1.kind
 cases a:P.funcs[fr.fn]? with
 | none=>
  refine Dn f (b.trans ?_) (s ((ext fr K0).tmps.getD 0 undef) w) (es:=#[]);unfold unwind;rw[h,i];dsimp;rw[show(ext fr K0).fn=fr.fn from rfl,a];dsimp;unfold doReturn
  rw[k]
 | some q=>
  cases n:(results q _).runT P w #[] with
  | mk r z=>
  cases r with
  | ok v u=>
   refine Dn f (b.trans ?_) (s v u) (es:=seen P fr.fn z++#[]);unfold unwind;rw[h,i];dsimp;rw[show(ext fr K0).fn=fr.fn from rfl,a];dsimp;rw[n];dsimp;unfold doReturn;rw[k]
   rfl
  | halt x u=>apply Q8 f b;unfold unwind;rw[h,i];dsimp;rw[show(ext fr K0).fn=fr.fn from rfl,a];dsimp;rw[n];cases x<;>trivial
omit hA in
structure Bd(P:Program)(Z:Zone)(Sh:Nat->Prop)(X:Tmp->Prop)(A:Frame->World->Prop) where
 fr:Frame
 l:List Frame
 w:World
 hI:Inv Z Sh X fr l w
 no:¬vK P Z Sh X A fr l w
omit hA in
def Bd.at{P:Program}(b:Bd P Z Sh X A)(τ:Nat->Question->Nat)(p:Nat):Machine:=lone (ext b.fr (kk b.l K0)) (low b.l K0 [c0]) (tp b.w τ p)
omit hA in
structure eD(P:Program)(Z:Zone)(Sh:Nat->Prop)(X:Tmp->Prop)(A:Frame->World->Prop) where
 τ:Nat->Question->Nat
 p:Nat
 k:Nat
 nx:Option (Bd P Z Sh X A)
omit hA in
def qz(P:Program)(b:Bd P Z Sh X A)(n:eD P Z Sh X A):Prop:=∀τ p,Agree (tp b.w n.τ n.p) n.k τ p->
 match n.nx with
 | some b'=>step P (b.at τ p)=.next (b'.at τ (p+n.k))
 | none=>Dead P A (b.at τ p)
omit hA in
theorem Bd.vT{b:Bd P Z Sh X A}(τ:Nat->Question->Nat)(p:Nat):¬yX A (b.at τ p):=by
 rintro⟨F,w',e,ha⟩;obtain⟨rfl,e1,rfl⟩:=Jo e;obtain⟨fr,l,w,hI,no⟩:=b
 cases l with
 | nil=>exact no (.stop fr w hI τ p ha)
 | cons x l=>have:=congrArg List.length e1;cases l<;>simp[low] at this
omit hA in
theorem Inv.tp{fr:Frame}(h:Inv Z Sh X fr l w)(τ:Nat->Question->Nat)(p:Nat):Inv Z Sh X fr l (Zn.tp w τ p):=⟨h.fr,h.low,h.W.tp τ p⟩
theorem c5p(O:∀F,Le Z F->t_ F P)(b:Bd P Z Sh X A):∃n:eD P Z Sh X A,qz P b n:=by
 let⟨t,l,w,u,D⟩:=b;by_cases z:Stop t l
 obtain rfl:l=[]:=z.1;exact⟨⟨w.tape,w.drawn,0,none⟩,λτ p _=>c1K hA (u.tp τ p) z (Bd.vT τ p <| ⟨_,_,rfl,·⟩)⟩
 have B:∃τ p,∀g r i s,Nx P t l _ g r i s->w.heap.size<=i->(∀e∈s,ku _ _ e)->¬vK P Z Sh X A g r i:=bW λL=>D (.of_next u λτ p=>bW λN=>L ⟨τ,p,λg r i s K o C x=>N ⟨g,r,i,s,K,o,C,x⟩⟩)
 let⟨τ,p,B⟩:=B;have E:=λd m=>Bd.vT (b:=⟨t,l,w,u,D⟩) d m
 cases c7n O (u.tp τ p) z with
 | go g r i s k a h y o Q=>
  exact⟨⟨τ,p,k,some ⟨g,r,i,y,by
   refine B g r i s (λκ I=>?_) o Q;have:=h κ I τ p λ_ _ _=>rfl;rw[Zg] at this;rw[this];have e:Zn.tp i τ (p+k)=i:=by have G:i.tape = τ:=a.tape;have R:i.drawn=p+k:=a.drawn;rw[<-G,<-R];rfl
   rw[e]⟩⟩,λd m q=>step_lone_go (by
   have:=h K0 [c0] d m q;show(stepG P true (Gr t l K0 [c0])<|Zn.tp w d m).bare=_;rw[Zg] at this;rw[this]
   rfl)⟩
 | bad g c i s k a h J M H o=>
  exact⟨⟨τ,p,k,none⟩,λd m q=>Dn (E d m) (by have:=h K0 [c0] d m q;trivial) (b8m hA l g (Zn.tp i d<|m+k) c J M (u.low.mono<|jE o)<|H.tp _ _)⟩
 | stop k h=>
  exact⟨⟨τ,p,k,none⟩,λd m q=>Q8 (E d m) rfl<|by have:=h [c0] d m q;trivial⟩
section path
variable(f:Bd P Z Sh X A->eD P Z Sh X A)(b0:Bd P Z Sh X A)
def path:Nat->Option (Bd P Z Sh X A)×Nat
 | 0=>(some b0,0)
 | i+1=>match (path i).1 with
  | none=>(none,(path i).2)
  | some b=>((f b).nx,(path i).2+(f b).k)
omit hA in
theorem ww(i j:Nat)(h:i<=j):(path f b0 i).2<=(path f b0 j).2:=by
 induction j with
 | zero=>obtain rfl:i=0:=aj
         exact ak _
 | succ j ih=>
  rcases bH i (j+1) with h1|h1
  ·refine ay (ih aj) ?_
   have e:path f b0 (j+1)=match (path f b0 j).1 with
    | none=>(none,(path f b0 j).2)
    | some b=>((f b).nx,(path f b0 j).2+(f b).k):=rfl
   rw[e]
   cases(path f b0 j).1 with
   | none=>exact ak _
   | some b=>exact Nat.le_add_right _ _
  ·obtain rfl:i=j+1:=aj
   exact ak _
open Classical in
noncomputable def star(j:Nat)(q:Question):Nat:=
 if h:∃i b,(path f b0 i).1=some b/\(path f b0 i).2<=j/\j<(path f b0 i).2+(f b).k then
  (f h.choose_spec.choose).τ ((f h.choose_spec.choose).p+(j - (path f b0 h.choose).2)) q
 else 0
omit hA in
theorem b8n{i:Nat}{b:Bd P Z Sh X A}(hb:(path f b0 i).1=some b):Agree (Zn.tp b.w (f b).τ (f b).p) (f b).k (star f b0) (path f b0 i).2:=by
 intro j hj q;have hex:∃i' b',(path f b0 i').1=some b'/\(path f b0 i').2<=(path f b0 i).2+j/\(path f b0 i).2+j<(path f b0 i').2+(f b').k:=⟨i,b,hb,aj,aj⟩;unfold star;rw[dif_pos hex];obtain⟨hs1,hs2,hs3⟩:=hex.choose_spec.choose_spec;generalize hex.choose_spec.choose=b' at hs1 hs2 hs3⊢;generalize hex.choose=i' at hs1 hs2 hs3⊢;have hnext:∀(i:Nat)b,(path f b0 i).1=some b->(path f b0 (i+1)).2=(path f b0 i).2+(f b).k:=λi b h=>by
  conv=>lhs;unfold path
  rw[h]
 have hi:i'=i:=by
  rcases Nat.lt_trichotomy i' i with h|h|h
  ·have:=ww f b0 (i'+1) i aj;rw[hnext _ _ hs1] at this;omega
  ·exact h
  ·have:=ww f b0 (i+1) i' aj;rw[hnext _ _ hb] at this;omega
 subst hi;rw[hb] at hs1;obtain rfl:=aO hs1;show(f b).τ _ q=(f b).τ _ q;congr 1
 show(f b).p+_=(f b).p+j;omega
omit hA in
theorem c1M(hf:∀b,qz P b (f b))(i:Nat):(∃b,(path f b0 i).1=some b/\runN P i (b0.at (star f b0) 0)=.next (b.at (star f b0) (path f b0 i).2))\/(∃j b,j<i/\runN P j (b0.at (star f b0) 0)=.next (b.at (star f b0) (path f b0 j).2)/\Dead P A (b.at (star f b0) (path f b0 j).2)/\(path f b0 j).1=some b):=by
 induction i with
 | zero=>exact .inl ⟨b0,rfl,rfl⟩
 | succ i ih=>
  rcases ih with⟨b,hb,hr⟩|⟨j,b,hj,h⟩
  ·have hn:=hf b (star f b0) (path f b0 i).2 (b8n f b0 hb)
   cases hx:(f b).nx with
   | none=>
    rw[hx] at hn
    exact .inr ⟨i,b,aj,hr,hn,hb⟩
   | some b'=>
    rw[hx] at hn;refine .inl ⟨b',?_,?_⟩
    ·conv=>lhs;unfold path
     rw[hb];exact hx
    ·rw[runN_add,hr];dsimp only;have:(path f b0 (i+1)).2=(path f b0 i).2+(f b).k:=by
      conv=>lhs;unfold path
      rw[hb]
     rw[this];dsimp only[runN];rw[hn]
  ·exact .inr ⟨j,b,aj,h⟩
end path
def uy(r:∀q,Le Z q->t_ q P){fr:Frame}(t:Inv Z Sh X fr [] w)(h:∀τ p,∃n g,runN P n (lone (ext fr K0) [c0] (Zn.tp w τ p))=.next g/\yX A g):vK P Z Sh X A fr [] w:=by
 refine bW λs=>?_
 let d:Bd P Z Sh X A:=⟨fr,[],w,t,s⟩
 let⟨f,v⟩:∃f:Bd P Z Sh X A->eD P Z Sh X A,∀b,qz P b (f b):=⟨_,(λb=>jk<|c5p hA r b)⟩;let⟨n,g,o,m⟩:=h (star f d) 0;obtain⟨b,z,i⟩|⟨j,b,x,i,u,-⟩:=c1M f d v n
 have e:b.at (star f d) (path f d n).2=g:=by have:runN P n (d.at _ 0)=.next g:=o;simp_all
 exact Bd.vT _ _<|e▸m
 obtain⟨k,rfl⟩:∃k,n=j+k:=⟨n - j,aj⟩;have:runN P _ (d.at _ 0)=.next g:=o;rw[runN_add,i] at this;exact u k g this m
end
end
end Go.Zn
