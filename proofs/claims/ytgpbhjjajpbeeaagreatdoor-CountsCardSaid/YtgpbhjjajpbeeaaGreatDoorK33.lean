/- A part of what the last file proves. -/
import Derived.Test.YtgpbhjjajpbeeaaGreatDoorK32
set_option linter.all false
set_option maxHeartbeats 8000000
namespace Go.Nm
section
open Zn (MarkOK)
open Go.Extern
set_option linter.unusedVariables false
section
variable{P:Program}
theorem b5A{a:Addr}:Mf P (load a):=fun _=>trivial
theorem b2x{a:Addr}{v:Value}:Mf P (store a v):=trivial
theorem a2k{o:Obj}:Mf P (newObj o):=fun _=>trivial
theorem R4(r:Nat):Mf P (shape r):=fun _=>trivial
theorem b7f(a:Addr)(n:Nat):Mf P (freeze a n):=trivial
theorem a5U(a:Addr):Mf P (frozen a):=fun _=>trivial
theorem R5{r:Nat}:Mf P (getObj r):=fun _=>trivial
theorem a5V{r:Nat}{o:Obj}:Mf P (setObj r o):=trivial
theorem J2(q:Question):Mf P (choose q):=fun _=>trivial
theorem a4C(n:Nat):Mf P (askRoom n):=by
 try unfold askRoom
 repeat' first|assumption|with_reducible (first|exact j5 _|exact a97|refine z8 _ ?_ ?_)|split|dsimp only|exact trivial
theorem l6(t:TypeId):Mf P (underlying t):=by
 try unfold underlying
 repeat' first|assumption|with_reducible (first|exact l9 _|exact j5 _|refine F9 ?_)|split|dsimp only|exact trivial
theorem G8(t:TypeId):Mf P (typeInfo t):=by
 try unfold typeInfo
 repeat' first|assumption|with_reducible (first|exact l9 _|exact j5 _|refine F9 ?_)|split|dsimp only|exact trivial
theorem H7(t:TypeId):Mf P (sizeOf t):=by
 try unfold sizeOf
 repeat' first|assumption|with_reducible (first|exact j5 _|exact G8 _|refine j4 ?_ fun _=>?_)|split|dsimp only|exact trivial
theorem b2y(t:TypeId):Mf P (isAgg t):=by
 try unfold isAgg
 repeat' first|assumption|with_reducible (first|exact j5 _|exact l6 _|refine j4 ?_ fun _=>?_)|split|dsimp only|exact trivial
theorem a1A(t:TypeId):Mf P (typeStr t):=by
 try unfold typeStr
 repeat' first|assumption|with_reducible (first|refine K6 _ ?_|exact j5 _|exact G8 _|refine j4 ?_ fun _=>?_|refine z8 _ ?_ ?_)|split|dsimp only|exact trivial
theorem a5W(t:TypeId):Mf P (elemOf t):=by
 try unfold elemOf
 repeat' first|assumption|with_reducible (first|exact l9 _|exact j5 _|exact l6 _|refine j4 ?_ fun _=>?_)|split|dsimp only|exact trivial
theorem M5(t:TypeId):Mf P (zeroValue t):=by
 try unfold zeroValue
 repeat' first|assumption|with_reducible (first|refine K6 _ ?_|exact j5 _|exact G8 _|refine j4 ?_ fun _=>?_)|split|dsimp only|exact trivial
theorem a5X{a:Addr}(n:Nat):∀(i:Nat)(acc:Array Value),Mf P (loadCellsFrom a i n acc):=by
 induction n with
 | zero=>exact fun _ _=>trivial
 | succ n ih=>exact fun i acc=>j4 (b5A) fun v=>ih _ _
theorem a1e{a:Addr}(n:Nat):Mf P (loadCells a n):=by
 try unfold loadCells
 repeat' first|assumption|with_reducible exact a5X _ _ _|split|dsimp only|exact trivial
theorem a0V{a:Addr}:∀(l:List Value)(i:Nat), Mf P (storeCells a l i):=by
 intro l
 induction l with
 | nil=>
  intros;try unfold storeCells
  repeat' first|assumption|with_reducible (first|exact j5 _|exact b2x|refine j4 ?_ fun _=>?_)|split|dsimp only|exact trivial
 | cons x l ih=>
  intros;try unfold storeCells
  repeat' first|assumption|with_reducible (first|exact j5 _|exact ih _|exact b2x|refine j4 ?_ fun _=>?_)|split|dsimp only|exact trivial
theorem a0e(t:TypeId){a:Addr}:Mf P (loadVar t a):=by
 try unfold loadVar
 repeat' first|assumption|with_reducible (first|exact j5 _|exact b5A|exact H7 _|exact b2y _|exact a1e _|refine j4 ?_ fun _=>?_|refine z8 _ ?_ ?_)|split|dsimp only|exact trivial
theorem a6A(t:TypeId){a:Addr}{v:Value}:Mf P (storeVar t a v):=by
 try unfold storeVar
 repeat' first|assumption|with_reducible (first|exact l9 _|exact H7 _|exact a0V _ _|refine j4 ?_ fun _=>?_|refine z8 _ ?_ ?_)|split|dsimp only|exact trivial
theorem a0L(t:TypeId){c:Array Value}:Mf P (newRow t c):=by
 try unfold newRow
 repeat' first|assumption|with_reducible (first|exact j5 _|exact a2k|refine j4 ?_ fun _=>?_)|split|dsimp only|exact trivial
theorem a1p(t:TypeId){v:Value}:Mf P (newVar t v):=by
 try unfold newVar
 repeat' first|assumption|with_reducible exact a0L _|split|dsimp only|exact trivial
theorem Z8(t:TypeId){c:Array Value}(off:Nat):Mf P (part t c off):=by
 try unfold part
 repeat' first|assumption|with_reducible (first|exact l9 _|exact j5 _|exact H7 _|exact b2y _|refine j4 ?_ fun _=>?_|refine z8 _ ?_ ?_)|split|dsimp only|exact trivial
theorem C9{α:Type}(e:RuntimeError):Mf P (runtimePanic e:Sem α):=by
 try unfold runtimePanic
 repeat' first|assumption|with_reducible (first|exact a4A _|exact a5W _|exact a1p _|refine F9 ?_|refine j4 ?_ fun _=>?_)|split|dsimp only|exact trivial
theorem a1B{α:Type}(k:IntKind)(x y:Int)(c:BoundsCode):Mf P (boundsPanic k x y c:Sem α):=by
 try unfold boundsPanic
 repeat' first|assumption|with_reducible (first|exact j5 _|exact J2 _|exact C9 _|refine j4 ?_ fun _=>?_|refine c3C _ ?_|refine z8 _ ?_ ?_)|split|dsimp only|exact trivial
theorem a2J(v:Value):Mf P (asIntOf v):=by
 try unfold asIntOf
 repeat' first|assumption|with_reducible (first|exact l9 _|refine K6 _ ?_|exact j5 _)|split|dsimp only|exact trivial
theorem a2l(v:Value):Mf P (asInt v):=by
 try unfold asInt
 repeat' first|assumption|with_reducible (first|exact j5 _|exact a2J _|refine j4 ?_ fun _=>?_)|split|dsimp only|exact trivial
theorem a3P(v:Value):Mf P (asBool v):=by
 try unfold asBool
 repeat' first|assumption|with_reducible (first|exact l9 _|exact j5 _)|split|dsimp only|exact trivial
theorem b9K{v:Value}:Mf P (asAgg v):=by
 try unfold asAgg
 repeat' first|assumption|with_reducible (first|exact l9 _|exact j5 _)|split|dsimp only|exact trivial
theorem a2m{v:Value}:Mf P (asAddr v):=by
 try unfold asAddr
 repeat' first|assumption|with_reducible (first|exact l9 _|exact j5 _|exact C9 _)|split|dsimp only|exact trivial
theorem a02{v:Value}:Mf P (Instr.sureAddr v):=by
 try unfold Instr.sureAddr
 repeat' first|assumption|with_reducible (first|exact l9 _|exact j5 _)|split|dsimp only|exact trivial
theorem a5Y{r:Nat}:Mf P (viewAt r):=by
 try unfold viewAt
 repeat' first|assumption|with_reducible (first|exact j5 _|exact R4 _|exact R5|refine j4 ?_ fun _=>?_|refine z8 _ ?_ ?_)|split|dsimp only|exact trivial
theorem a6B{r:Nat}:Mf P (numberAt r):=by
 try unfold numberAt
 repeat' first|assumption|with_reducible (first|exact j5 _|exact R4 _|exact R5|refine j4 ?_ fun _=>?_|refine z8 _ ?_ ?_)|split|dsimp only|exact trivial
theorem Z9{a:Addr}:Mf P (behindNumber a):=by
 try unfold behindNumber
 repeat' first|assumption|with_reducible (first|exact j5 _|exact a6B|refine j4 ?_ fun _=>?_)|split|dsimp only|exact trivial
theorem a6C{a:Addr}(l:Bool):Mf P (asNumber a l):=by
 try unfold asNumber
 repeat' first|assumption|with_reducible (first|exact j5 _|exact a2k|refine j4 ?_ fun _=>?_)|split|dsimp only|exact trivial
theorem a99{a:Addr}:Mf P (noView a):=by
 try unfold noView
 repeat' first|assumption|with_reducible (first|refine K6 _ ?_|exact j5 _|exact a5Y|refine j4 ?_ fun _=>?_|refine z8 _ ?_ ?_)|split|dsimp only|exact trivial
theorem a2n(a:Addr):Mf P (markStringish a):=by
 try unfold markStringish
 repeat' first|assumption|with_reducible (first|exact j5 _|exact R4 _|exact b7f _ _|refine j4 ?_ fun _=>?_)|split|dsimp only|exact trivial
theorem b09(a:Addr):Mf P (stringish a):=by
 try unfold stringish
 repeat' first|assumption|with_reducible (first|exact j5 _|exact R4 _|exact a5U _|refine j4 ?_ fun _=>?_|refine z8 _ ?_ ?_)|split|dsimp only|exact trivial
theorem b2z(a b:Addr):Mf P (mayBeOne a b):=by
 try unfold mayBeOne
 repeat' first|assumption|with_reducible (first|exact j5 _|exact R4 _|exact b09 _|refine j4 ?_ fun _=>?_)|split|dsimp only|exact trivial
theorem a3u{a b:Addr}:Mf P (sameAddr a b):=by
 try unfold sameAddr
 repeat' first|assumption|with_reducible (first|refine K6 _ ?_|exact j5 _|exact a5U _|exact J2 _|exact a99|exact b2z _ _|refine j4 ?_ fun _=>?_|refine z8 _ ?_ ?_)|split|dsimp only|exact trivial
theorem b4a{r:Nat}:Mf P (cellsIn r):=by
 try unfold cellsIn
 repeat' first|assumption|with_reducible (first|exact j5 _|exact R4 _|exact R5|refine j4 ?_ fun _=>?_)|split|dsimp only|exact trivial
theorem a2o{a:Addr}:Mf P (byteOf a):=by
 try unfold byteOf
 repeat' first|assumption|with_reducible (first|exact l9 _|exact j5 _|exact R4 _|exact a99|refine F9 ?_|refine j4 ?_ fun _=>?_|refine z8 _ ?_ ?_)|split|dsimp only|exact trivial
theorem b7g{a:Addr}(c b:Nat):Mf P (partAt a c b):=by
 try unfold partAt
 repeat' first|assumption|with_reducible (first|exact j5 _|exact a2o|refine j4 ?_ fun _=>?_)|split|dsimp only|exact trivial
theorem a13{a:Addr}(f:Field):Mf P (fieldPlace a f):=by
 try unfold fieldPlace
 repeat' first|assumption|with_reducible (first|exact j5 _|exact H7 _|exact b7g _ _|refine j4 ?_ fun _=>?_|refine z8 _ ?_ ?_)|split|dsimp only|exact trivial
theorem a8o(a:Addr)(u:TypeId)(n:Nat):Mf P (variablesAt a u n):=by
 try unfold variablesAt
 repeat' first|assumption|with_reducible (first|exact j5 _|exact R4 _|refine F9 ?_|refine j4 ?_ fun _=>?_)|split|dsimp only|exact trivial
theorem b9L(t:TypeId):Mf P (Instr.alloc t true (.tuple #[])):=by
 try unfold Instr.alloc
 repeat' first|assumption|with_reducible (first|exact j5 _|exact M5 _|exact a1p _|refine j4 ?_ fun _=>?_)|split|dsimp only|exact trivial
theorem c3F(t:TypeId){v:Value}:Mf P (Instr.box t v):=by
 try unfold Instr.box
 repeat' first|assumption|with_reducible (first|exact j5 _|exact a1p _|refine j4 ?_ fun _=>?_)|split|dsimp only|exact trivial
theorem b9M(t:TypeId){parts:Array (Nat×Value)}:Mf P (Instr.build t parts):=by
 try unfold Instr.build
 repeat' first|assumption|with_reducible (first|exact l9 _|exact j5 _|exact l6 _|exact H7 _|exact M5 _|refine j4 ?_ fun _=>?_|refine b5y _ _ fun _=>?_)|split|dsimp only|exact trivial
theorem a9d(t:TypeId)(len:Nat){parts:Array (Nat×Value)}:Mf P (Instr.buildSlice t len parts):=by
 try unfold Instr.buildSlice
 repeat' first|assumption|with_reducible (first|exact l9 _|refine K6 _ ?_|exact j5 _|exact l6 _|exact H7 _|exact M5 _|exact a0L _|refine j4 ?_ fun _=>?_|refine z8 _ ?_ ?_)|split|dsimp only|exact trivial
theorem b7h(t:TypeId){a:Value}:Mf P (Instr.loadAt t a):=by
 try unfold Instr.loadAt
 repeat' first|assumption|with_reducible (first|exact a0e _|exact a02|refine j4 ?_ fun _=>?_)|split|dsimp only|exact trivial
theorem b4b(t:TypeId){a v:Value}:Mf P (Instr.storeAt t a v):=by
 try unfold Instr.storeAt
 repeat' first|assumption|with_reducible (first|exact a6A _|exact a02|refine j4 ?_ fun _=>?_)|split|dsimp only|exact trivial
theorem b4c(s:TypeId){a:Value}(f:Nat):Mf P (Instr.fieldAt s a f):=by
 try unfold Instr.fieldAt
 repeat' first|assumption|with_reducible (first|exact l9 _|exact j5 _|exact l6 _|exact a02|exact a13 _|refine j4 ?_ fun _=>?_)|split|dsimp only|exact trivial
theorem b4d(t:TypeId){x:Value}(i:Value):Mf P (Instr.indexAt t x i):=by
 try unfold Instr.indexAt
 repeat' first|assumption|with_reducible (first|exact l9 _|refine K6 _ ?_|exact j5 _|exact l6 _|exact H7 _|exact a1B _ _ _ _|exact a2J _|exact a02|refine j4 ?_ fun _=>?_|refine z8 _ ?_ ?_)|split|dsimp only|exact trivial
theorem a9e(x:Value)(y:Nat)(c:BoundsCode):Mf P (Instr.sliceBound x y c):=by
 try unfold Instr.sliceBound
 repeat' first|assumption|with_reducible (first|exact j5 _|exact a1B _ _ _ _|exact a2J _|refine j4 ?_ fun _=>?_|refine z8 _ ?_ ?_)|split|dsimp only|exact trivial
theorem a3v(s:Bool)(len cap:Nat)(low high max:Option Value):Mf P (Instr.sliceBounds s len cap low high max):=by
 try unfold Instr.sliceBounds
 repeat' first|assumption|with_reducible (first|exact l9 _|exact j5 _|exact a9e _ _ _|refine j4 ?_ fun _=>?_)|split|dsimp only|exact trivial
theorem b9N(t:TypeId){x:Value}(low high max:Option Value):Mf P (Instr.slice t x low high max):=by
 try unfold Instr.slice
 repeat' first|assumption|with_reducible (first|exact l9 _|exact j5 _|exact l6 _|exact H7 _|exact a2m|exact a3v _ _ _ _ _ _|refine j4 ?_ fun _=>?_|refine z8 _ ?_ ?_)|split|dsimp only|exact trivial
theorem b4e(t:TypeId){x:Value}(low high max:Option Value):Mf P (Instr.sliceAt t x low high max):=by
 try unfold Instr.sliceAt
 repeat' first|assumption|with_reducible (first|exact j5 _|exact l6 _|exact H7 _|exact a02|exact a3v _ _ _ _ _ _|exact b9N _ _ _ _|refine j4 ?_ fun _=>?_)|split|dsimp only|exact trivial
theorem a5Z(t:TypeId){v:Value}:Mf P (Instr.makeInterface t v):=by
 try unfold Instr.makeInterface
 repeat' first|assumption|with_reducible (first|exact l9 _|exact j5 _|exact l6 _|refine j4 ?_ fun _=>?_)|split|dsimp only|exact trivial
theorem b2A{fn:Fn}{a b:Array Value}:Mf P (Instr.makeFunc fn a b):=by
 try unfold Instr.makeFunc
 repeat' first|assumption|with_reducible exact j5 _|split|dsimp only|exact trivial
theorem b4f(t:TypeId)(r:Option Value):Mf P (Instr.makeMap t r):=by
 try unfold Instr.makeMap
 repeat' first|assumption|with_reducible (first|exact l9 _|exact j5 _|exact a2k|exact l6 _|exact a2l _|refine j4 ?_ fun _=>?_)|split|dsimp only|exact trivial
theorem b1a(t:TypeId)(l c:Value):Mf P (Instr.makeSlice t l c):=by
 try unfold Instr.makeSlice
 repeat' first|assumption|with_reducible (first|exact l9 _|exact j5 _|exact J2 _|exact a4C _|exact l6 _|exact G8 _|exact H7 _|exact M5 _|exact a0L _|exact C9 _|exact a2l _|refine j4 ?_ fun _=>?_|refine z8 _ ?_ ?_)|split|dsimp only|exact trivial
theorem b9O(t:TypeId){x:Value}(f:Nat):Mf P (Instr.field t x f):=by
 try unfold Instr.field
 repeat' first|assumption|with_reducible (first|exact l9 _|exact l6 _|exact Z8 _ _|exact b9K|refine j4 ?_ fun _=>?_)|split|dsimp only|exact trivial
theorem b9P(t:TypeId){x:Value}(i:Value):Mf P (Instr.index t x i):=by
 try unfold Instr.index
 repeat' first|assumption|with_reducible (first|exact l9 _|exact j5 _|exact l6 _|exact H7 _|exact Z8 _ _|exact a1B _ _ _ _|exact a2J _|refine j4 ?_ fun _=>?_|refine z8 _ ?_ ?_)|split|dsimp only|exact trivial
theorem b4g{x:Value}(i:Nat):Mf P (Instr.extract x i):=by
 try unfold Instr.extract
 repeat' first|assumption|with_reducible (first|exact l9 _|exact j5 _)|split|dsimp only|exact trivial
theorem b2B:Mf P Instr.panicnil:=by
 unfold Instr.panicnil;refine j4 b9I fun _=>?_;repeat' first|assumption|with_reducible (first|exact l9 _|exact j5 _|exact b9I|refine F9 ?_|refine j4 ?_ fun _=>?_)|split|dsimp only|exact trivial
theorem b2C(x:Value):Mf P (Instr.panic x):=by
 unfold Instr.panic;split
 ·exact trivial
 ·refine j4 b2B fun _=>?_;split
  ·exact trivial
  ·exact C9 _
 all_goals exact trivial
theorem a9f{x:Value}(t u:TypeId)(ok:Bool):Mf P (Instr.typeAssert x t u ok):=by
 try unfold Instr.typeAssert
 repeat' first|assumption|with_reducible (first|exact l9 _|exact j5 _|exact l6 _|exact G8 _|exact M5 _|exact C9 _|refine j4 ?_ fun _=>?_|refine z8 _ ?_ ?_)|split|dsimp only|exact trivial
theorem a6D(op:BinOp)(k:IntKind)(x y:Int):Mf P (Op.intArith op k x y):=by
 try unfold Op.intArith
 repeat' first|assumption|with_reducible (first|exact l9 _|exact j5 _)|split|dsimp only|exact trivial
theorem a8p(op:BinOp)(k:IntKind)(x y:Int):Mf P (Op.intBits op k x y):=by
 try unfold Op.intBits
 repeat' first|assumption|with_reducible (first|exact l9 _|exact j5 _)|split|dsimp only|exact trivial
theorem b7i(op:BinOp)(x y:Int):Mf P (Op.intCmp op x y):=by
 try unfold Op.intCmp
 repeat' first|assumption|with_reducible (first|exact l9 _|exact j5 _)|split|dsimp only|exact trivial
theorem b7j(op:BinOp)(k:IntKind)(x y:Int):Mf P (Op.intDiv op k x y):=by
 try unfold Op.intDiv
 repeat' first|assumption|with_reducible (first|exact l9 _|exact j5 _|exact C9 _|refine z8 _ ?_ ?_)|split|dsimp only|exact trivial
theorem b9Q(op:BinOp)(k:IntKind)(x:Int)(k':IntKind)(y:Int):Mf P (Op.shift op k x k' y):=by
 try unfold Op.shift
 repeat' first|assumption|with_reducible (first|exact l9 _|exact j5 _|exact C9 _|refine z8 _ ?_ ?_)|split|dsimp only|exact trivial
theorem a3w(op:BinOp)(x y:ByteArray):Mf P (Op.stringOp op x y):=by
 try unfold Op.stringOp
 repeat' first|assumption|with_reducible (first|exact l9 _|refine K6 _ ?_|exact j5 _|refine z8 _ ?_ ?_)|split|dsimp only|exact trivial
theorem a4j(op:BinOp)(k:FloatKind)(x y:Nat):Mf P (Op.floatArith op k x y):=by
 try unfold Op.floatArith
 repeat' first|assumption|with_reducible (first|exact l9 _|exact j5 _|exact J2 _|refine j4 ?_ fun _=>?_)|split|dsimp only|exact trivial
theorem a6E(op:BinOp)(k:FloatKind)(x y:Nat):Mf P (Op.floatCmp op k x y):=by
 try unfold Op.floatCmp
 repeat' first|assumption|with_reducible (first|exact l9 _|exact j5 _)|split|dsimp only|exact trivial
theorem a9g(k:FloatKind)(b:Nat)(d:IntKind):Mf P (Conv.floatToInt k b d):=by
 try unfold Conv.floatToInt
 repeat' first|assumption|with_reducible (first|exact j5 _|exact J2 _|refine j4 ?_ fun _=>?_|refine z8 _ ?_ ?_)|split|dsimp only|exact trivial
theorem a1a(k:FloatKind)(b:Nat)(d:FloatKind):Mf P (Conv.floatToFloat k b d):=by
 try unfold Conv.floatToFloat
 repeat' first|assumption|with_reducible (first|exact j5 _|exact J2 _|refine j4 ?_ fun _=>?_|refine z8 _ ?_ ?_)|split|dsimp only|exact trivial
theorem a3d(src:FloatKind)(x:Nat)(dst:FloatKind):Mf P (Op.Complex.conv src x dst):=by
 try unfold Op.Complex.conv
 repeat' first|assumption|with_reducible (first|exact l9 _|exact j5 _|exact a1a _ _ _|refine j4 ?_ fun _=>?_|refine z8 _ ?_ ?_)|split|dsimp only|exact trivial
theorem a0l(op:BinOp)(k:FloatKind)(x y:Nat):Mf P (Op.Complex.arith op k x y):=by
 try unfold Op.Complex.arith
 repeat' first|assumption|with_reducible (first|exact l9 _|exact j5 _|exact a4j _ _ _ _|refine j4 ?_ fun _=>?_)|split|dsimp only|exact trivial
theorem a5e(op:BinOp)(k:FloatKind)(x y:Nat):Mf P (Op.Complex.cmp op k x y):=by
 try unfold Op.Complex.cmp
 repeat' first|assumption|with_reducible (first|exact a3P _|exact a6E _ _ _ _|refine j4 ?_ fun _=>?_)|split|dsimp only|exact trivial
theorem a0y(x y:Nat):Mf P (Op.Complex.mul x y):=a0l _ _ _ _
theorem b1b(x y:Nat):Mf P (Op.Complex.add x y):=a0l _ _ _ _
theorem b1c(x y:Nat):Mf P (Op.Complex.sub x y):=a0l _ _ _ _
theorem c1J(x y:Nat):Mf P (Op.Complex.quo x y):=a0l _ _ _ _
theorem a8q(a b c d:Nat):Mf P (Op.Complex.product a b c d):=by
 unfold Op.Complex.product;exact j4 (a0y _ _) fun _=>j4 (a0y _ _) fun _=>j4 (b1c _ _) fun _=>j4 (a0y _ _) fun _=>j4 (a0y _ _) fun _=>j4 (b1b _ _) fun _=>trivial
theorem b1d(s a b c d:Nat):Mf P (Op.Complex.corrected s a b c d):=by
 unfold Op.Complex.corrected;exact j4 (a0y _ _) fun _=>j4 (a0y _ _) fun _=>j4 (b1b _ _) fun _=>j4 (a0y _ _) fun _=>j4 (a0y _ _) fun _=>j4 (a0y _ _) fun _=>j4 (b1c _ _) fun _=>j4 (a0y _ _) fun _=>trivial
theorem a6F(a b c d:Nat):Mf P (Op.Complex.quotient a b c d):=by
 unfold Op.Complex.quotient;dsimp only
 repeat' first
  | with_reducible exact j5 _
  | with_reducible exact b1d _ _ _ _ _
  | with_reducible refine j4 (a5e _ _ _ _) fun _=>?_
  | with_reducible refine j4 (a0y _ _) fun _=>?_
  | with_reducible refine j4 (b1b _ _) fun _=>?_
  | with_reducible refine j4 (b1c _ _) fun _=>?_
  | with_reducible refine j4 (c1J _ _) fun _=>?_
  | with_reducible refine j4 (j5 _) fun _=>?_
  | split
theorem b1e(op:BinOp)(k:FloatKind)(a b c d:Nat):Mf P (Op.complexOp op k a b c d):=by
 unfold Op.complexOp;split
 ·exact j4 (a0l _ _ _ _) fun _=>j4 (a0l _ _ _ _) fun _=>trivial
 ·exact j4 (a0l _ _ _ _) fun _=>j4 (a0l _ _ _ _) fun _=>trivial
 ·refine j4 (a3d _ _ _) fun _=>j4 (a3d _ _ _) fun _=>j4 (a3d _ _ _) fun _=>j4 (a3d _ _ _) fun _=>j4 ?_ fun _=>j4 (a3d _ _ _) fun _=>j4 (a3d _ _ _) fun _=>trivial;first|exact a8q _ _ _ _|exact a6F _ _ _ _
 ·refine j4 (a3d _ _ _) fun _=>j4 (a3d _ _ _) fun _=>j4 (a3d _ _ _) fun _=>j4 (a3d _ _ _) fun _=>j4 ?_ fun _=>j4 (a3d _ _ _) fun _=>j4 (a3d _ _ _) fun _=>trivial;first|exact a8q _ _ _ _|exact a6F _ _ _ _
 ·exact j4 (a5e _ _ _ _) fun _=>j4 (a5e _ _ _ _) fun _=>trivial
 ·exact j4 (a5e _ _ _ _) fun _=>j4 (a5e _ _ _ _) fun _=>trivial
 ·exact trivial
theorem b9R(op:UnOp)(x:Value):Mf P (Op.unary op x):=by
 try unfold Op.unary
 repeat' first|assumption|with_reducible (first|exact l9 _|refine K6 _ ?_|exact j5 _|exact a6D _ _ _ _|exact a8p _ _ _ _)|split|dsimp only|exact trivial
theorem a3x{a b:Option Addr}:Mf P (samePointer a b):=by
 try unfold samePointer
 repeat' first|assumption|with_reducible (first|exact j5 _|exact a3u)|split|dsimp only|exact trivial
theorem b4h :∀(n:Nat)(t:TypeId)(x y:Value),  Mf P (Op.equalIn n t x y):=by
 intro n
 induction n with
 | zero=>
  intros;try unfold Op.equalIn
  repeat' first|assumption|with_reducible (first|exact l9 _|refine K6 _ ?_|exact j5 _|exact J2 _|exact l6 _|exact G8 _|exact H7 _|exact a1A _|exact Z8 _ _|exact C9 _|exact Z9|exact a3u|exact a2o|exact a3x|refine F9 ?_|refine j4 ?_ fun _=>?_|refine z8 _ ?_ ?_|refine a0k _ fun _ _=>?_|refine a1o _ fun _ _=>?_)|split|dsimp only|exact trivial
 | succ n ih=>
  intros;try unfold Op.equalIn
  repeat' first|assumption|with_reducible (first|exact l9 _|refine K6 _ ?_|exact j5 _|exact ih _ _ _|exact J2 _|exact l6 _|exact G8 _|exact H7 _|exact a1A _|exact Z8 _ _|exact C9 _|exact Z9|exact a3u|exact a2o|exact a3x|refine F9 ?_|refine j4 ?_ fun _=>?_|refine z8 _ ?_ ?_|refine a0k _ fun _ _=>?_|refine a1o _ fun _ _=>?_)|split|dsimp only|exact trivial
theorem a8r(t:TypeId){x y:Value}:Mf P (Op.equal t x y):=by
 try unfold Op.equal
 repeat' first|assumption|with_reducible exact b4h _ _ _ _|split|dsimp only|exact trivial
theorem b1f :∀(n:Nat)(t:TypeId)(x y:Value),  Mf P (Op.eqGuardIn n t x y):=by
 intro n
 induction n with
 | zero=>
  intros;try unfold Op.eqGuardIn
  repeat' first|assumption|with_reducible (first|refine K6 _ ?_|exact j5 _|exact l6 _|exact H7 _|exact Z8 _ _|refine j4 ?_ fun _=>?_|refine z8 _ ?_ ?_|refine a0k _ fun _ _=>?_|refine a1o _ fun _ _=>?_)|split|dsimp only|exact trivial
 | succ n ih=>
  intros;try unfold Op.eqGuardIn
  repeat' first|assumption|with_reducible (first|refine K6 _ ?_|exact j5 _|exact ih _ _ _|exact l6 _|exact H7 _|exact Z8 _ _|refine j4 ?_ fun _=>?_|refine z8 _ ?_ ?_|refine a0k _ fun _ _=>?_|refine a1o _ fun _ _=>?_)|split|dsimp only|exact trivial
theorem b4i(op:BinOp)(t:TypeId)(x y:Operand){a b:Value}:Mf P (eqGuard op t x y a b):=by
 try unfold eqGuard
 repeat' first|assumption|with_reducible (first|refine K6 _ ?_|exact j5 _|exact b1f _ _ _ _|refine F9 ?_|refine j4 ?_ fun _=>?_|refine z8 _ ?_ ?_)|split|dsimp only|exact trivial
theorem a9h(ts:Array TypeId)(t:TypeId){ptr:Option Addr}(y:Value):Mf P (Builtin.unsafeAdd_ ts t #[.pointer ptr,y]):=by
 unfold Builtin.unsafeAdd_;refine j4 (a2l _) fun n=>?_;repeat' first|assumption|with_reducible (first|refine K6 _ ?_|exact j5 _|exact R4 _|exact a2l _|exact a5Y|refine F9 ?_|refine j4 ?_ fun _=>?_|refine z8 _ ?_ ?_)|split|dsimp only|exact trivial
theorem a5f(ts:Array TypeId)(t:TypeId){args:Array Value}:Mf P (Builtin.unsafeAdd_ ts t args):=by
 obtain⟨l⟩:=args;rcases l with _|⟨x,_|⟨y,_|⟨z,l⟩⟩⟩
 ·exact trivial
 ·cases x<;>exact trivial
 ·cases x with
  | pointer p=>exact a9h ts t y
  | _=>exact trivial
 ·cases x<;>exact trivial
theorem a8s(t:TypeId){x y:Value}:Mf P (movedNumber t x y):=by
 try unfold movedNumber
 repeat' first|assumption|with_reducible (first|refine K6 _ ?_|exact j5 _|exact l6 _|exact Z9|exact a6C _|exact a5f _ _|refine j4 ?_ fun _=>?_|refine z8 _ ?_ ?_)|split|dsimp only|exact trivial
theorem a7l(t:TypeId){x y:Value}:Mf P (movedPointer t x y):=by
 try unfold movedPointer
 repeat' first|assumption|with_reducible (first|refine K6 _ ?_|exact a6B|exact a5f _ _|refine j4 ?_ fun _=>?_|refine z8 _ ?_ ?_)|split|dsimp only|exact trivial
theorem a5g{a b:Addr}:Mf P (Op.twoPlaces a b):=by
 try unfold Op.twoPlaces
 repeat' first|assumption|with_reducible (first|refine K6 _ ?_|exact j5 _|exact a2o|refine F9 ?_|refine j4 ?_ fun _=>?_|refine z8 _ ?_ ?_)|split|dsimp only|exact trivial
theorem b4j(k:IntKind){a b:Addr}:Mf P (Op.addrSub k a b):=by
 try unfold Op.addrSub
 repeat' first|assumption|with_reducible (first|exact j5 _|exact a5g|refine j4 ?_ fun _=>?_)|split|dsimp only|exact trivial
theorem b4k(op:BinOp){a b:Addr}:Mf P (Op.addrCmp op a b):=by
 try unfold Op.addrCmp
 repeat' first|assumption|with_reducible (first|refine K6 _ ?_|exact j5 _|exact a5g|refine j4 ?_ fun _=>?_)|split|dsimp only|exact trivial
theorem b4l(k:IntKind){a:Addr}(n:Int):Mf P (Op.addrMod k a n):=by
 try unfold Op.addrMod
 repeat' first|assumption|with_reducible (first|refine K6 _ ?_|exact j5 _|exact R4 _|exact G8 _|exact a2o|refine j4 ?_ fun _=>?_|refine z8 _ ?_ ?_)|split|dsimp only|exact trivial
theorem b9S(op:BinOp)(t:TypeId){x y:Value}:Mf P (binOp op t x y):=by
 try unfold binOp
 repeat' first|assumption|with_reducible (first|exact l9 _|refine K6 _ ?_|exact j5 _|exact l6 _|exact Z9|exact a6D _ _ _ _|exact a8p _ _ _ _|exact b7i _ _ _|exact b7j _ _ _ _|exact b9Q _ _ _ _ _|exact a3w _ _ _|exact a4j _ _ _ _|exact a6E _ _ _ _|exact b1e _ _ _ _ _ _|exact a8r _|exact a8s _|exact a7l _|exact b4j _|exact b4k _|exact b4l _ _|refine j4 ?_ fun _=>?_|refine z8 _ ?_ ?_)|split|dsimp only|exact trivial
theorem a6a{x:Value}:Mf P (Conv.bytesToString x):=by
 try unfold Conv.bytesToString
 repeat' first|assumption|with_reducible (first|exact l9 _|exact j5 _|exact a1e _|refine j4 ?_ fun _=>?_|refine a0k _ fun _ _=>?_)|split|dsimp only|exact trivial
theorem a6b{x:Value}:Mf P (Conv.runesToString x):=by
 try unfold Conv.runesToString
 repeat' first|assumption|with_reducible (first|exact l9 _|exact j5 _|exact a1e _|refine j4 ?_ fun _=>?_|refine a0k _ fun _ _=>?_)|split|dsimp only|exact trivial
theorem a6c(e:TypeId)(s:ByteArray):Mf P (Conv.stringToBytes e s):=by
 try unfold Conv.stringToBytes
 repeat' first|assumption|with_reducible (first|exact j5 _|exact J2 _|exact a0L _|exact a2n _|refine j4 ?_ fun _=>?_)|split|dsimp only|exact trivial
theorem a6d(e:TypeId)(s:ByteArray):Mf P (Conv.stringToRunes e s):=by
 try unfold Conv.stringToRunes
 repeat' first|assumption|with_reducible (first|exact j5 _|exact J2 _|exact a0L _|refine j4 ?_ fun _=>?_)|split|dsimp only|exact trivial
theorem b7k{a:Addr}:Mf P (Conv.seenAt a):=by
 try unfold Conv.seenAt
 repeat' first|assumption|with_reducible (first|refine K6 _ ?_|exact j5 _|exact R4 _|exact a5Y|refine F9 ?_|refine j4 ?_ fun _=>?_|refine z8 _ ?_ ?_)|split|dsimp only|exact trivial
theorem a6e(t u:TypeId){x:Value}:Mf P (Conv.unsafePointer t u x):=by
 try unfold Conv.unsafePointer
 repeat' first|assumption|with_reducible (first|exact l9 _|refine K6 _ ?_|exact j5 _|exact a2k|exact R4 _|exact l6 _|exact H7 _|exact a6C _|exact b4a|exact a8o _ _ _|exact b7k|refine F9 ?_|refine j4 ?_ fun _=>?_|refine z8 _ ?_ ?_)|split|dsimp only|exact trivial
theorem a4a(s:FloatKind)(a b:Nat)(k:FloatKind):Mf P (Conv.complexToComplex s a b k):=by
 unfold Conv.complexToComplex;repeat' first|assumption|with_reducible (first|exact l9 _|exact j5 _|exact a1a _ _ _|refine j4 ?_ fun _=>?_)|split|dsimp only|exact trivial
theorem b4m(t u:TypeId){x:Value}:Mf P (convert t u x):=by
 unfold convert
 repeat' first
  | with_reducible exact a4a _ _ _ _
  | assumption|with_reducible (first|exact l9 _|refine K6 _ ?_|exact j5 _|exact l6 _|exact a2n _|exact a9g _ _ _|exact a1a _ _ _|exact a6a|exact a6b|exact a6c _ _|exact a6d _ _|exact a6e _ _|refine j4 ?_ fun _=>?_)|split|dsimp only|exact trivial
theorem a3y(em:Bool):∀(n:Nat)(t:TypeId)(v:Value), Mf P (Instr.checkKey em n t v):=by
 intro n
 induction n with
 | zero=>
  intros;try unfold Instr.checkKey
  repeat' first|assumption|with_reducible (first|exact l9 _|refine K6 _ ?_|exact j5 _|exact l6 _|exact G8 _|exact H7 _|exact a1A _|exact Z8 _ _|exact C9 _|refine j4 ?_ fun _=>?_|refine z8 _ ?_ ?_|refine a0k _ fun _ _=>?_|refine a1o _ fun _ _=>?_)|split|dsimp only|exact trivial
 | succ n ih=>
  intros;try unfold Instr.checkKey
  repeat' first|assumption|with_reducible (first|exact l9 _|refine K6 _ ?_|exact j5 _|exact ih _ _|exact l6 _|exact G8 _|exact H7 _|exact a1A _|exact Z8 _ _|exact C9 _|refine j4 ?_ fun _=>?_|refine z8 _ ?_ ?_|refine a0k _ fun _ _=>?_|refine a1o _ fun _ _=>?_)|split|dsimp only|exact trivial
theorem a9i(t:TypeId){k:Value}:∀(l:List MapEntry)(i:Nat), Mf P (Instr.findAsking t k l i):=by
 intro l
 induction l with
 | nil=>
  intros;try unfold Instr.findAsking
  repeat' first|assumption|with_reducible (first|exact j5 _|exact a8r _|refine j4 ?_ fun _=>?_|refine z8 _ ?_ ?_)|split|dsimp only|exact trivial
 | cons x l ih=>
  intros;try unfold Instr.findAsking
  repeat' first|assumption|with_reducible (first|exact j5 _|exact ih _|exact a8r _|refine j4 ?_ fun _=>?_|refine z8 _ ?_ ?_)|split|dsimp only|exact trivial
theorem a4D(t:TypeId){k:Value}{l:List MapEntry}:Mf P (Instr.findKey t k l):=by
 try unfold Instr.findKey
 repeat' first|assumption|with_reducible (first|exact j5 _|exact l6 _|exact a9i _ _ _|refine j4 ?_ fun _=>?_)|split|dsimp only|exact trivial
theorem b7l(t:TypeId){x i:Value}(ok:Bool):Mf P (Instr.lookup t x i ok):=by
 try unfold Instr.lookup
 repeat' first|assumption|with_reducible (first|exact l9 _|exact j5 _|exact R5|exact l6 _|exact M5 _|exact a3y _ _ _ _|exact a4D _|refine j4 ?_ fun _=>?_)|split|dsimp only|exact trivial
theorem a7m{a b:Value}:Mf P (Instr.keyThatStays a b):=by
 try unfold Instr.keyThatStays
 repeat' first|assumption|with_reducible (first|exact j5 _|exact J2 _|refine j4 ?_ fun _=>?_|refine z8 _ ?_ ?_)|split|dsimp only|exact trivial
theorem a5h(t:TypeId){m k v:Value}:Mf P (Instr.mapUpdate t m k v):=by
 try unfold Instr.mapUpdate
 repeat' first|assumption|with_reducible (first|exact l9 _|exact R5|exact a5V|exact l6 _|exact C9 _|exact a3y _ _ _ _|exact a4D _|exact a7m|refine j4 ?_ fun _=>?_)|split|dsimp only|exact trivial
theorem b7m(ts:Array TypeId)(t:TypeId){args:Array Value}:Mf P (Builtin.delete_ ts t args):=by
 try unfold Builtin.delete_
 repeat' first|assumption|with_reducible (first|exact l9 _|exact j5 _|exact R5|exact a5V|exact l6 _|exact a3y _ _ _ _|exact a4D _|refine j4 ?_ fun _=>?_)|split|dsimp only|exact trivial
theorem b9T(t:TypeId){x:Value}:Mf P (Instr.range t x):=by
 try unfold Instr.range
 repeat' first|assumption|with_reducible (first|exact l9 _|exact j5 _|exact a2k|exact R5|exact l6 _|refine j4 ?_ fun _=>?_)|split|dsimp only|exact trivial
theorem c1K{x:Value}(s:Bool)(t:TypeId):Mf P (Instr.next x s t):=by
 try unfold Instr.next
 repeat' first|assumption|with_reducible (first|exact l9 _|refine K6 _ ?_|exact j5 _|exact R5|exact a5V|exact J2 _|refine j4 ?_ fun _=>?_|refine z8 _ ?_ ?_)|split|dsimp only|exact trivial
theorem b9U{x:Value}:Mf P (Instr.entry x):=by
 try unfold Instr.entry
 repeat' first|assumption|with_reducible (first|exact l9 _|refine K6 _ ?_|exact j5 _|exact R5|refine j4 ?_ fun _=>?_|refine z8 _ ?_ ?_)|split|dsimp only|exact trivial
theorem a14(a:Addr)(n:Nat):Mf P (Builtin.holdsCells a n):=by
 try unfold Builtin.holdsCells
 repeat' first|assumption|with_reducible (first|exact j5 _|exact R4 _|refine j4 ?_ fun _=>?_)|split|dsimp only|exact trivial
theorem a8t(x:Value):Mf P (Builtin.lenOf x):=by
 try unfold Builtin.lenOf
 repeat' first|assumption|with_reducible (first|exact l9 _|exact j5 _)|split|dsimp only|exact trivial
theorem a0W(size n:Nat){x:Value}:Mf P (Builtin.firstCells size n x):=by
 try unfold Builtin.firstCells
 repeat' first|assumption|with_reducible (first|exact l9 _|exact j5 _|exact a1e _)|split|dsimp only|exact trivial
theorem a6G(size l n:Nat)(base:Option Addr)(x:Value):Mf P (Builtin.mayShare size l n base x):=by
 try unfold Builtin.mayShare
 repeat' first|assumption|with_reducible (first|exact j5 _|exact a5U _|exact a14 _ _|refine j4 ?_ fun _=>?_|refine z8 _ ?_ ?_)|split|dsimp only|exact trivial
theorem a6H(zeros:Bool)(size n:Nat)(elem:TypeId){x:Value}:Mf P (if (!zeros)=true then Builtin.firstCells size n x else if n*size=0 then pure #[] else do pure (Builtin.zeroCells (<-zeroValue elem).cells n)):=by
 repeat' first|assumption|with_reducible (first|exact j5 _|exact M5 _|exact a0W _ _|refine j4 ?_ fun _=>?_|refine z8 _ ?_ ?_)|split|dsimp only|exact trivial
theorem b7n(ts:Array TypeId)(t:TypeId){args:Array Value}:Mf P (Builtin.append_ ts t args):=by
 unfold Builtin.append_;split
 case h_2=>exact trivial
 refine j4 (l6 _) fun d=>?_;split
 case h_2=>exact trivial
 repeat' first
  | with_reducible exact j5 _
  | with_reducible exact l9 _
  | with_reducible refine K6 _ ?_
  | with_reducible exact l6 _
  | with_reducible refine j4 (l6 _) fun _=>?_
  | with_reducible exact H7 _
  | with_reducible refine j4 (H7 _) fun _=>?_
  | with_reducible exact G8 _
  | with_reducible refine j4 (G8 _) fun _=>?_
  | with_reducible exact a2l _
  | with_reducible refine j4 (a2l _) fun _=>?_
  | with_reducible exact a8t _
  | with_reducible refine j4 (a8t _) fun _=>?_
  | with_reducible exact J2 _
  | with_reducible refine j4 (J2 _) fun _=>?_
  | with_reducible exact a4C _
  | with_reducible refine j4 (a4C _) fun _=>?_
  | with_reducible exact a6G _ _ _ _ _
  | with_reducible refine j4 (a6G _ _ _ _ _) fun _=>?_
  | with_reducible exact M5 _
  | with_reducible refine j4 (M5 _) fun _=>?_
  | with_reducible exact a0W _ _
  | with_reducible refine j4 (a0W _ _) fun _=>?_
  | with_reducible exact a0V _ _
  | with_reducible refine j4 (a0V _ _) fun _=>?_
  | with_reducible exact a0L _
  | with_reducible refine j4 (a0L _) fun _=>?_
  | with_reducible exact C9 _
  | with_reducible refine j4 (C9 _) fun _=>?_
  | with_reducible exact a6H _ _ _ _
  | with_reducible refine j4 (a6H _ _ _ _) fun _=>?_
  | with_reducible exact a14 _ _
  | with_reducible refine j4 (a14 _ _) fun _=>?_
  | with_reducible refine j4 a97 fun _=>?_
  | with_reducible refine j4 (j5 _) fun _=>?_
  | with_reducible refine j4 (z8 _ (C9 _) ?_) fun _=>?_
  | with_reducible refine j4 ?_ fun _=>?_
  | with_reducible refine z8 _ ?_ ?_
  | split
  | dsimp only
  | exact trivial
theorem c1L(ts:Array TypeId)(t:TypeId){args:Array Value}:Mf P (Builtin.copy_ ts t args):=by
 try unfold Builtin.copy_
 repeat' first|assumption|with_reducible (first|exact l9 _|exact j5 _|exact l6 _|exact H7 _|exact a0V _ _|exact a8t _|exact a0W _ _|refine j4 ?_ fun _=>?_)|split|dsimp only|exact trivial
theorem c3G(ts:Array TypeId)(t:TypeId){args:Array Value}:Mf P (Builtin.len_ ts t args):=by
 try unfold Builtin.len_
 repeat' first|assumption|with_reducible (first|exact l9 _|exact j5 _|exact R5|exact l6 _|refine j4 ?_ fun _=>?_)|split|dsimp only|exact trivial
theorem c3H(ts:Array TypeId)(t:TypeId){args:Array Value}:Mf P (Builtin.cap_ ts t args):=by
 try unfold Builtin.cap_
 repeat' first|assumption|with_reducible (first|exact l9 _|exact j5 _|exact R5|exact l6 _|refine j4 ?_ fun _=>?_)|split|dsimp only|exact trivial
theorem c1M(x y:Value):Mf P (Builtin.max2 x y):=by
 try unfold Builtin.max2
 repeat' first|assumption|with_reducible (first|exact l9 _|refine K6 _ ?_|exact j5 _|exact J2 _|exact a3P _|exact a3w _ _ _|refine j4 ?_ fun _=>?_)|split|dsimp only|exact trivial
theorem c1N(x y:Value):Mf P (Builtin.min2 x y):=by
 try unfold Builtin.min2
 repeat' first|assumption|with_reducible (first|exact l9 _|refine K6 _ ?_|exact j5 _|exact J2 _|exact a3P _|exact a3w _ _ _|refine j4 ?_ fun _=>?_)|split|dsimp only|exact trivial
theorem c3I(ts:Array TypeId)(t:TypeId){args:Array Value}:Mf P (Builtin.max_ ts t args):=by
 try unfold Builtin.max_
 repeat' first|assumption|with_reducible (first|exact l9 _|exact c1M _ _|refine a98 _ (fun _ _=>?_) _ _)|split|dsimp only|exact trivial
theorem c3J(ts:Array TypeId)(t:TypeId){args:Array Value}:Mf P (Builtin.min_ ts t args):=by
 try unfold Builtin.min_
 repeat' first|assumption|with_reducible (first|exact l9 _|exact c1N _ _|refine a98 _ (fun _ _=>?_) _ _)|split|dsimp only|exact trivial
theorem b1g(t:TypeId){x:Place}:Mf P (x.get t):=by
 unfold Place.get;repeat' first|assumption|with_reducible (first|exact j5 _|exact a0e _)|split|dsimp only|exact trivial
theorem b7o :∀(l:List FieldStep)(t:TypeId)(x:Place), Mf P (follow l t x):=by
 intro l
 induction l with
 | nil=>
  intros;try unfold follow
  repeat' first|assumption|with_reducible (first|exact l9 _|exact j5 _|exact l6 _|exact Z8 _ _|exact a2m|exact a13 _|exact b1g _|refine j4 ?_ fun _=>?_|refine z8 _ ?_ ?_)|split|dsimp only|exact trivial
 | cons x l ih=>
  intros;try unfold follow
  repeat' first|assumption|with_reducible (first|exact l9 _|exact j5 _|exact ih _ _|exact l6 _|exact Z8 _ _|exact a2m|exact a13 _|exact b1g _|refine j4 ?_ fun _=>?_|refine z8 _ ?_ ?_)|split|dsimp only|exact trivial
theorem c1O(t u:TypeId){v:Value}(a b:String):Mf P (Builtin.ssaWrapNilChk_ #[t] u #[v,strVal a,strVal b]):=by
 unfold Builtin.ssaWrapNilChk_
 cases v with
 | pointer p=>
  cases p with
  | some p=>exact trivial
  | none=>
   refine j4 (J2 (.extern "ssa:wrapnilchk.dereferenced" 2)) fun c=>?_;dsimp only
   repeat' first|assumption|with_reducible (first|exact l9 _|refine K6 _ ?_|exact J2 _|exact l6 _|exact G8 _|exact C9 _|refine j4 ?_ fun _=>?_|refine z8 _ ?_ ?_)|split|dsimp only|exact trivial
 | _=>exact trivial
theorem a9j(t:TypeId){x:Place}(pr:Bool)(w:Option String):Mf P (receiverAt t x pr w):=by
 try unfold receiverAt
 repeat' first|assumption|with_reducible (first|exact l9 _|exact j5 _|exact l6 _|exact a0e _|exact a2m|exact b1g _|exact c1O _ _ _ _|refine j4 ?_ fun _=>?_)|split|dsimp only|exact trivial
theorem a3z :∀(l:List FieldStep)(t:TypeId)(x:Option Value),Mf P (followBlind l t x):=by
 intro l
 induction l with
 | nil=>
  intros;try unfold followBlind
  repeat' first|assumption|with_reducible (first|exact l9 _|exact j5 _|exact l6 _|exact Z8 _ _|refine j4 ?_ fun _=>?_)|split|dsimp only|exact trivial
 | cons x l ih=>
  intros;try unfold followBlind
  repeat' first|assumption|with_reducible (first|exact l9 _|exact j5 _|exact ih _ _|exact l6 _|exact Z8 _ _|refine j4 ?_ fun _=>?_)|split|dsimp only|exact trivial
theorem b2D{name:String}:∀(n:Nat)(t:TypeId)(v:Value), Mf P (nilAhead n t v name):=by
 intro n
 induction n with
 | zero=>
  intros;try unfold nilAhead
  repeat' first|assumption|with_reducible (first|exact l9 _|exact j5 _|exact l6 _|exact G8 _|exact a3z _ _ _|refine j4 ?_ fun _=>?_)|split|dsimp only|exact trivial
 | succ n ih=>
  intros;try unfold nilAhead
  repeat' first|assumption|with_reducible (first|exact l9 _|exact j5 _|exact ih _ _|exact l6 _|exact G8 _|exact a3z _ _ _|refine j4 ?_ fun _=>?_)|split|dsimp only|exact trivial
end
end
section
open Zn (MarkOK)
variable{P:Program}
def bN:Builtin->Bool
 | .append|.cap|.copy|.delete|.len|.max|.min|.panic=>true
 | _=>false
structure Disc where
 F:FuncId->Prop
 N:String->Prop
def b1j(D:Disc):Callee->Prop
 | .value (.func f)=>D.F f
 | .invoke _ n=>D.N n
 | .builtin b=>bN b=true
 | _=>False
def OpN(D:Disc):Op->Prop
 | .call c=>b1j D c.callee
 | .go _|.defer _|.send .. | .recv .. | .select .. | .makeChan .. | .ready _|.waits _|.mapEntry .. | .entryStore .. | .sliceToArrayPointer ..=>False
 | _=>True
def a8x(D:Disc):Next->Prop
 | .value _=>True
 | .skip=>True
 | .enter f _=>D.F f
 | _=>False
structure PN(D:Disc)(P:Program):Prop where
 methods:∀t i,P.info? t=some i->∀m∈i.methods,D.N m.name->∀f p,m.func=some (f,p)->D.F f
 num:∀f fn,D.F f->P.funcs[f]?=some fn->(fn.name== "runtime.NumGoroutine")=false
 ext:∀f fn,D.F f->P.funcs[f]?=some fn->fn.body=none->Extern.findNext fn=none/\∀e args,Extern.find fn=some e->Mf P (e args)
variable{D:Disc}
theorem Z4{s:Sem Value}(h:Mf P s):Nf P (a8x D) (do pure (.value (<-s))):=Nf.bind h fun _ _=>trivial
theorem c3L{s:Sem Unit}(h:Mf P s):Nf P (a8x D) (do s;pure .skip):=Nf.bind h fun _ _=>trivial
theorem b9X{α:Type}{Q:α->Prop}(e:RuntimeError):Nf P Q (runtimePanic e:Sem α):=by
 unfold runtimePanic;refine Nf.bind (R:=fun p=>p=P) rfl ?_;rintro p rfl;dsimp only
 split<;>first
  | exact trivial
  | exact Nf.bind (a5W _) fun _ _=>Nf.bind (a1p _) fun _ _=>trivial
theorem b4o(b:Builtin)(hb:bN b=true)(ts:Array TypeId)(t:TypeId)(cs:Array Bool){args:Array Value}:Nf P (a8x D) (builtin b ts t cs args):=by
 unfold builtin
 cases b<;>first
  | exact Z4 (b7n _ _)
  | exact Z4 (c3H _ _)
  | exact Z4 (c1L _ _)
  | exact Z4 (b7m _ _)
  | exact Z4 (c3G _ _)
  | exact Z4 (c3I _ _)
  | exact Z4 (c3J _ _)
  | exact Z4 (b2C _)
  | cases hb
theorem a6L(hP:PN D P){f:FuncId}(hf:D.F f){args:Array Value}:Nf P (a8x D) (callFunc f args):=by
 unfold callFunc;refine Nf.bind (R:=fun p=>p=P) rfl ?_;rintro p rfl
 cases hfn:p.funcs[f]? with
 | none=>exact trivial
 | some fn=>
  dsimp only;rw[hP.num f fn hf hfn];rw[if_neg (by simp)]
  cases hb:fn.body with
  | some c=>
   rw[if_neg (by simp)]
   exact hf
  | none=>
   obtain⟨h1,h2⟩:=hP.ext f fn hf hfn hb;rw[if_pos (by simp)];refine Nf.bind (R:=fun _=>True) ⟨trivial,trivial⟩ fun _ _=>?_
   cases hn:Extern.findNext fn with
   | some e=>rw[h1] at hn;cases hn
   | none=>
    dsimp only
    cases hx:Extern.find fn with
    | some e=>exact Nf.bind (h2 e args hx) fun v hv=>trivial
    | none=>
     dsimp only;split<;>exact trivial
theorem b7s(hP:PN D P){name:String}(hn:D.N name):∀(n:Nat)(t:TypeId)(v:Value),Nf P (fun r=>D.F r.1) (method n t v name):=by
 intro n
 induction n with
 | zero=>intro t v;exact trivial
 | succ n ih=>
  intro t v;unfold method;refine Nf.bind (R:=fun i=>P.info? t=some i) ?_ fun i hi=>?_
  ·unfold typeInfo;refine Nf.bind (R:=fun p=>p=P) rfl ?_;rintro p rfl;split
   ·assumption
   ·exact trivial
  split
  ·rename_i m hm;have hmem:=Array.mem_of_find?_eq_some hm;have hname:m.name=name:=by have:=Array.find?_some hm;simpa using this
   refine Nf.bind (b7o _ _ _) fun r _=>?_;obtain⟨xt,x⟩:=r;dsimp only;split
   ·refine Nf.bind (b1g _) fun w _=>?_;split
    ·exact ih _ _
    ·exact b9X _
    ·exact trivial
   ·rename_i f pr hf;exact Nf.bind (a9j _ _ _) fun w _=>hP.methods t i hi m hmem (hname▸hn) f pr hf
  ·exact trivial
theorem a9k(hP:PN D P)(recv:Value){name:String}(hn:D.N name){args:Array Value}:Nf P (a8x D) (callMethod recv name args):=by
 unfold callMethod
 cases recv with
 | iface t v=>
  refine Nf.bind (R:=fun _=>True) trivial fun p _=>Nf.bind (b7s hP hn _ _ _) fun r hr=>?_;obtain⟨f,w⟩:=r
  exact a6L hP hr
 | nilIface=>exact b9X _
 | _=>exact trivial
theorem b7t(hP:PN D P){ρ:Operand->Value}{o:Oper}(hk:OpN D o.op)(hρ:∀f,ρ (.func f)=.func (.func f) #[] #[]):Nf P (a8x D) (execOp ρ o):=by
 obtain⟨dst,op,type,pos,after,guard⟩:=o;dsimp only at hk;unfold execOp
 cases op with
 | move x=>exact trivial
 | assign x=>exact trivial
 | pick c a b=>exact Nf.bind (a3P _) fun _ _=>trivial
 | alloc e=>exact Z4 (b9L _)
 | box e x=>exact Z4 (c3F _)
 | build t ps=>exact Z4 (b9M _)
 | buildSlice t l ps=>exact Z4 (a9d _ _)
 | load t a=>exact Z4 (b7h _)
 | store t a x=>exact c3L (b4b _)
 | nilCheck x=>
  dsimp only;generalize ρ x=v
  repeat' first
   | exact trivial
   | exact b9X _
   | refine Nf.bind (R:=fun _=>True) trivial fun _ _=>?_
   | refine Nf.bind (b2D _ _ _) fun _ _=>?_
   | split
 | binOp op t x y u=>exact Z4 (j4 (b4i _ _ _ _) fun _=>b9S _ _)
 | unOp op t x=>exact Z4 (b9R _ _)
 | convert s d x=>exact Z4 (b4m _ _)
 | makeInterface t x=>exact Z4 (a5Z _)
 | makeFunc fn f c=>exact Z4 b2A
 | makeMap t r=>exact Z4 (b4f _ _)
 | makeSlice t l c=>exact Z4 (b1a _ _ _)
 | slice t x l h m=>exact Z4 (b4e _ _ _ _)
 | fieldAddr s x f=>exact Z4 (b4c _ _)
 | field t x f=>exact Z4 (b9O _ _)
 | indexAddr t x i=>exact Z4 (b4d _ _)
 | index t x i=>exact Z4 (b9P _ _)
 | lookup t x i ok=>exact Z4 (b7l _ _)
 | mapUpdate t m k x=>exact c3L (a5h _)
 | insert t m k x=>exact c3L (a5h _)
 | range t x=>exact Z4 (b9T _)
 | next x s=>exact Z4 (c1K _ _)
 | entry x=>exact Z4 b9U
 | typeAssert x t u ok=>exact Z4 (a9f _ _ _)
 | extract x i=>exact Z4 (b4g _)
 | panic x=>exact Z4 (b2C _)
 | call c=>
  replace hk:b1j D c.callee:=hk;refine Nf.bind (R:=fun d=>(∃f l,d.target=.fn (.func f) l/\D.F f)\/(∃n l,d.target=.fn (.method n) l/\D.N n)\/∃b ts t cs,d.target=.builtin b ts t cs/\bN b=true) ?_ ?_
  ·unfold resolve;dsimp only
   cases e:c.callee with
   | builtin b=>rw[e] at hk;exact .inr (.inr ⟨_,_,_,_,rfl,hk⟩)
   | invoke r n=>rw[e] at hk;exact .inr (.inl ⟨_,_,rfl,hk⟩)
   | value x=>
    rw[e] at hk
    cases x with
    | func f=>
     dsimp only;rw[hρ]
     exact .inl ⟨_,_,rfl,hk⟩
    | _=>exact hk.elim
  ·rintro⟨t,args⟩ (⟨f,l,rfl,hf⟩|⟨n,l,rfl,hn⟩|⟨b,ts,t,cs,rfl,hb⟩)
   ·exact a6L hP hf
   ·unfold invoke;dsimp only
    cases e:args[0]? with
    | none=>exact trivial
    | some recv=>exact a9k hP _ hn
   ·exact b4o b hb ts t cs
 | _=>exact hk.elim
end
end Go.Nm
