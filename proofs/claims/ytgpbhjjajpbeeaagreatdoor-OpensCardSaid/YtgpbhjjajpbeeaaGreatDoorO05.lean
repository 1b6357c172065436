/- A part of what the last file proves. -/
import Derived.Test.YtgpbhjjajpbeeaaGreatDoorO04
set_option linter.all false
set_option maxHeartbeats 8000000
namespace Go.Nm
section
open Zn (fU)
open Go.Extern
set_option linter.unusedVariables false
section
variable{P:Program}
theorem za{a:Addr}:Mf P (load a):=λ_=>trivial
theorem D3{a:Addr}{v:Value}:Mf P (store a v):=trivial
theorem QD{o:Obj}:Mf P (newObj o):=λ_=>trivial
theorem wL(r:Nat):Mf P (shape r):=λ_=>trivial
theorem b8l(a:Addr)(n:Nat):Mf P (freeze a n):=trivial
theorem bq(a:Addr):Mf P (frozen a):=λ_=>trivial
theorem zI{r:Nat}:Mf P (getObj r):=λ_=>trivial
theorem bp{r:Nat}{o:Obj}:Mf P (setObj r o):=trivial
theorem O9(q:Question):Mf P (choose q):=λ_=>trivial
theorem cH(n:Nat):Mf P (askRoom n):=by
 try unfold askRoom
 repeat' first|assumption|with_reducible (first|exact o5 _|exact Hv|refine G6 _ ?_ ?_)|split|dsimp only|exact trivial
theorem o9(t:TypeId):Mf P (underlying t):=by
 try unfold underlying
 repeat' first|assumption|with_reducible (first|exact y8 _|exact o5 _|refine J5 ?_)|split|dsimp only|exact trivial
theorem J8(t:TypeId):Mf P (typeInfo t):=by
 try unfold typeInfo
 repeat' first|assumption|with_reducible (first|exact y8 _|exact o5 _|refine J5 ?_)|split|dsimp only|exact trivial
theorem O0(t:TypeId):Mf P (sizeOf t):=by
 try unfold sizeOf
 repeat' first|assumption|with_reducible (first|exact o5 _|exact J8 _|refine l9 ?_ λ_=>?_)|split|dsimp only|exact trivial
theorem D1(t:TypeId):Mf P (isAgg t):=by
 try unfold isAgg
 repeat' first|assumption|with_reducible (first|exact o5 _|exact o9 _|refine l9 ?_ λ_=>?_)|split|dsimp only|exact trivial
theorem QK(t:TypeId):Mf P (typeStr t):=by
 try unfold typeStr
 repeat' first|assumption|with_reducible (first|refine Q9 _ ?_|exact o5 _|exact J8 _|refine l9 ?_ λ_=>?_|refine G6 _ ?_ ?_)|split|dsimp only|exact trivial
theorem bk(t:TypeId):Mf P (elemOf t):=by
 try unfold elemOf
 repeat' first|assumption|with_reducible (first|exact y8 _|exact o5 _|exact o9 _|refine l9 ?_ λ_=>?_)|split|dsimp only|exact trivial
theorem U9(t:TypeId):Mf P (zeroValue t):=by
 try unfold zeroValue
 repeat' first|assumption|with_reducible (first|refine Q9 _ ?_|exact o5 _|exact J8 _|refine l9 ?_ λ_=>?_)|split|dsimp only|exact trivial
theorem a7a{a:Addr}(n:Nat):∀(i:Nat)(acc:Array Value),Mf P (loadCellsFrom a i n acc):=by
 induction n with
 | zero=>exactλ_ _=>trivial
 | succ n ih=>exactλi acc=>l9 (za) λv=>ih _ _
theorem Vf{a:Addr}(n:Nat):Mf P (loadCells a n):=by
 try unfold loadCells
 repeat' first|assumption|with_reducible exact a7a _ _ _|split|dsimp only|exact trivial
theorem Vm{a:Addr}:∀(l:List Value)(i:Nat), Mf P (storeCells a l i):=by
 intro l
 induction l with
 | nil=>
  intros;try unfold storeCells
  repeat' first|assumption|with_reducible (first|exact o5 _|exact D3|refine l9 ?_ λ_=>?_)|split|dsimp only|exact trivial
 | cons x l ih=>
  intros;try unfold storeCells
  repeat' first|assumption|with_reducible (first|exact o5 _|exact ih _|exact D3|refine l9 ?_ λ_=>?_)|split|dsimp only|exact trivial
theorem Ic(t:TypeId){a:Addr}:Mf P (loadVar t a):=by
 try unfold loadVar
 repeat' first|assumption|with_reducible (first|exact o5 _|exact za|exact O0 _|exact D1 _|exact Vf _|refine l9 ?_ λ_=>?_|refine G6 _ ?_ ?_)|split|dsimp only|exact trivial
theorem TX(t:TypeId){a:Addr}{v:Value}:Mf P (storeVar t a v):=by
 try unfold storeVar
 repeat' first|assumption|with_reducible (first|exact y8 _|exact O0 _|exact Vm _ _|refine l9 ?_ λ_=>?_|refine G6 _ ?_ ?_)|split|dsimp only|exact trivial
theorem Ia(t:TypeId){c:Array Value}:Mf P (newRow t c):=by
 try unfold newRow
 repeat' first|assumption|with_reducible (first|exact o5 _|exact QD|refine l9 ?_ λ_=>?_)|split|dsimp only|exact trivial
theorem Ky(t:TypeId){v:Value}:Mf P (newVar t v):=by
 try unfold newVar
 repeat' first|assumption|with_reducible exact Ia _|split|dsimp only|exact trivial
theorem xB(t:TypeId){c:Array Value}(off:Nat):Mf P (part t c off):=by
 try unfold part
 repeat' first|assumption|with_reducible (first|exact y8 _|exact o5 _|exact O0 _|exact D1 _|refine l9 ?_ λ_=>?_|refine G6 _ ?_ ?_)|split|dsimp only|exact trivial
theorem G9{α:Type}(e:RuntimeError):Mf P (runtimePanic e:Sem α):=by
 try unfold runtimePanic
 repeat' first|assumption|with_reducible (first|exact cJ _|exact bk _|exact Ky _|refine J5 ?_|refine l9 ?_ λ_=>?_)|split|dsimp only|exact trivial
theorem ef{α:Type}(k:IntKind)(x y:Int)(c:BoundsCode):Mf P (boundsPanic k x y c:Sem α):=by
 try unfold boundsPanic
 repeat' first|assumption|with_reducible (first|exact o5 _|exact O9 _|exact G9 _|refine l9 ?_ λ_=>?_|refine CC _ ?_|refine G6 _ ?_ ?_)|split|dsimp only|exact trivial
theorem UJ(v:Value):Mf P (asIntOf v):=by
 try unfold asIntOf
 repeat' first|assumption|with_reducible (first|exact y8 _|refine Q9 _ ?_|exact o5 _)|split|dsimp only|exact trivial
theorem J_(v:Value):Mf P (asInt v):=by
 try unfold asInt
 repeat' first|assumption|with_reducible (first|exact o5 _|exact UJ _|refine l9 ?_ λ_=>?_)|split|dsimp only|exact trivial
theorem Us(v:Value):Mf P (asBool v):=by
 try unfold asBool
 repeat' first|assumption|with_reducible (first|exact y8 _|exact o5 _)|split|dsimp only|exact trivial
theorem c05{v:Value}:Mf P (asAgg v):=by
 try unfold asAgg
 repeat' first|assumption|with_reducible (first|exact y8 _|exact o5 _)|split|dsimp only|exact trivial
theorem QC{v:Value}:Mf P (asAddr v):=by
 try unfold asAddr
 repeat' first|assumption|with_reducible (first|exact y8 _|exact o5 _|exact G9 _)|split|dsimp only|exact trivial
theorem QW{v:Value}:Mf P (Instr.sureAddr v):=by
 try unfold Instr.sureAddr
 repeat' first|assumption|with_reducible (first|exact y8 _|exact o5 _)|split|dsimp only|exact trivial
theorem bh{r:Nat}:Mf P (viewAt r):=by
 try unfold viewAt
 repeat' first|assumption|with_reducible (first|exact o5 _|exact wL _|exact zI|refine l9 ?_ λ_=>?_|refine G6 _ ?_ ?_)|split|dsimp only|exact trivial
theorem TO{r:Nat}:Mf P (numberAt r):=by
 try unfold numberAt
 repeat' first|assumption|with_reducible (first|exact o5 _|exact wL _|exact zI|refine l9 ?_ λ_=>?_|refine G6 _ ?_ ?_)|split|dsimp only|exact trivial
theorem Vu{a:Addr}:Mf P (behindNumber a):=by
 try unfold behindNumber
 repeat' first|assumption|with_reducible (first|exact o5 _|exact TO|refine l9 ?_ λ_=>?_)|split|dsimp only|exact trivial
theorem Ta{a:Addr}(l:Bool):Mf P (asNumber a l):=by
 try unfold asNumber
 repeat' first|assumption|with_reducible (first|exact o5 _|exact QD|refine l9 ?_ λ_=>?_)|split|dsimp only|exact trivial
theorem Hi{a:Addr}:Mf P (noView a):=by
 try unfold noView
 repeat' first|assumption|with_reducible (first|refine Q9 _ ?_|exact o5 _|exact bh|refine l9 ?_ λ_=>?_|refine G6 _ ?_ ?_)|split|dsimp only|exact trivial
theorem bo(a:Addr):Mf P (markStringish a):=by
 try unfold markStringish
 repeat' first|assumption|with_reducible (first|exact o5 _|exact wL _|exact b8l _ _|refine l9 ?_ λ_=>?_)|split|dsimp only|exact trivial
theorem b2s(a:Addr):Mf P (stringish a):=by
 try unfold stringish
 repeat' first|assumption|with_reducible (first|exact o5 _|exact wL _|exact bq _|refine l9 ?_ λ_=>?_|refine G6 _ ?_ ?_)|split|dsimp only|exact trivial
theorem b3J(a b:Addr):Mf P (mayBeOne a b):=by
 try unfold mayBeOne
 repeat' first|assumption|with_reducible (first|exact o5 _|exact wL _|exact b2s _|refine l9 ?_ λ_=>?_)|split|dsimp only|exact trivial
theorem cM{a b:Addr}:Mf P (sameAddr a b):=by
 try unfold sameAddr
 repeat' first|assumption|with_reducible (first|refine Q9 _ ?_|exact o5 _|exact bq _|exact O9 _|exact Hi|exact b3J _ _|refine l9 ?_ λ_=>?_|refine G6 _ ?_ ?_)|split|dsimp only|exact trivial
theorem b5i{r:Nat}:Mf P (cellsIn r):=by
 try unfold cellsIn
 repeat' first|assumption|with_reducible (first|exact o5 _|exact wL _|exact zI|refine l9 ?_ λ_=>?_)|split|dsimp only|exact trivial
theorem QB{a:Addr}:Mf P (byteOf a):=by
 try unfold byteOf
 repeat' first|assumption|with_reducible (first|exact y8 _|exact o5 _|exact wL _|exact Hi|refine J5 ?_|refine l9 ?_ λ_=>?_|refine G6 _ ?_ ?_)|split|dsimp only|exact trivial
theorem b8m{a:Addr}(c b:Nat):Mf P (partAt a c b):=by
 try unfold partAt
 repeat' first|assumption|with_reducible (first|exact o5 _|exact QB|refine l9 ?_ λ_=>?_)|split|dsimp only|exact trivial
theorem eJ{a:Addr}(f:Field):Mf P (fieldPlace a f):=by
 try unfold fieldPlace
 repeat' first|assumption|with_reducible (first|exact o5 _|exact O0 _|exact b8m _ _|refine l9 ?_ λ_=>?_|refine G6 _ ?_ ?_)|split|dsimp only|exact trivial
theorem a9q(a:Addr)(u:TypeId)(n:Nat):Mf P (variablesAt a u n):=by
 try unfold variablesAt
 repeat' first|assumption|with_reducible (first|exact o5 _|exact wL _|refine J5 ?_|refine l9 ?_ λ_=>?_)|split|dsimp only|exact trivial
theorem c07(t:TypeId):Mf P (Instr.alloc t true (.tuple #[])):=by
 try unfold Instr.alloc
 repeat' first|assumption|with_reducible (first|exact o5 _|exact U9 _|exact Ky _|refine l9 ?_ λ_=>?_)|split|dsimp only|exact trivial
theorem BC(t:TypeId){v:Value}:Mf P (Instr.box t v):=by
 try unfold Instr.box
 repeat' first|assumption|with_reducible (first|exact o5 _|exact Ky _|refine l9 ?_ λ_=>?_)|split|dsimp only|exact trivial
theorem c08(t:TypeId){parts:Array (Nat×Value)}:Mf P (Instr.build t parts):=by
 try unfold Instr.build
 repeat' first|assumption|with_reducible (first|exact y8 _|exact o5 _|exact o9 _|exact O0 _|exact U9 _|refine l9 ?_ λ_=>?_|refine zd _ _ λ_=>?_)|split|dsimp only|exact trivial
theorem b0e(t:TypeId)(len:Nat){parts:Array (Nat×Value)}:Mf P (Instr.buildSlice t len parts):=by
 try unfold Instr.buildSlice
 repeat' first|assumption|with_reducible (first|exact y8 _|refine Q9 _ ?_|exact o5 _|exact o9 _|exact O0 _|exact U9 _|exact Ia _|refine l9 ?_ λ_=>?_|refine G6 _ ?_ ?_)|split|dsimp only|exact trivial
theorem b8n(t:TypeId){a:Value}:Mf P (Instr.loadAt t a):=by
 try unfold Instr.loadAt
 repeat' first|assumption|with_reducible (first|exact Ic _|exact QW|refine l9 ?_ λ_=>?_)|split|dsimp only|exact trivial
theorem b5j(t:TypeId){a v:Value}:Mf P (Instr.storeAt t a v):=by
 try unfold Instr.storeAt
 repeat' first|assumption|with_reducible (first|exact TX _|exact QW|refine l9 ?_ λ_=>?_)|split|dsimp only|exact trivial
theorem b5k(s:TypeId){a:Value}(f:Nat):Mf P (Instr.fieldAt s a f):=by
 try unfold Instr.fieldAt
 repeat' first|assumption|with_reducible (first|exact y8 _|exact o5 _|exact o9 _|exact QW|exact eJ _|refine l9 ?_ λ_=>?_)|split|dsimp only|exact trivial
theorem b5l(t:TypeId){x:Value}(i:Value):Mf P (Instr.indexAt t x i):=by
 try unfold Instr.indexAt
 repeat' first|assumption|with_reducible (first|exact y8 _|refine Q9 _ ?_|exact o5 _|exact o9 _|exact O0 _|exact ef _ _ _ _|exact UJ _|exact QW|refine l9 ?_ λ_=>?_|refine G6 _ ?_ ?_)|split|dsimp only|exact trivial
theorem b0f(x:Value)(y:Nat)(c:BoundsCode):Mf P (Instr.sliceBound x y c):=by
 try unfold Instr.sliceBound
 repeat' first|assumption|with_reducible (first|exact o5 _|exact ef _ _ _ _|exact UJ _|refine l9 ?_ λ_=>?_|refine G6 _ ?_ ?_)|split|dsimp only|exact trivial
theorem aw(s:Bool)(len cap:Nat)(low high max:Option Value):Mf P (Instr.sliceBounds s len cap low high max):=by
 try unfold Instr.sliceBounds
 repeat' first|assumption|with_reducible (first|exact y8 _|exact o5 _|exact b0f _ _ _|refine l9 ?_ λ_=>?_)|split|dsimp only|exact trivial
theorem c09(t:TypeId){x:Value}(low high max:Option Value):Mf P (Instr.slice t x low high max):=by
 try unfold Instr.slice
 repeat' first|assumption|with_reducible (first|exact y8 _|exact o5 _|exact o9 _|exact O0 _|exact QC|exact aw _ _ _ _ _ _|refine l9 ?_ λ_=>?_|refine G6 _ ?_ ?_)|split|dsimp only|exact trivial
theorem b5m(t:TypeId){x:Value}(low high max:Option Value):Mf P (Instr.sliceAt t x low high max):=by
 try unfold Instr.sliceAt
 repeat' first|assumption|with_reducible (first|exact o5 _|exact o9 _|exact O0 _|exact QW|exact aw _ _ _ _ _ _|exact c09 _ _ _ _|refine l9 ?_ λ_=>?_)|split|dsimp only|exact trivial
theorem a7c(t:TypeId){v:Value}:Mf P (Instr.makeInterface t v):=by
 try unfold Instr.makeInterface
 repeat' first|assumption|with_reducible (first|exact y8 _|exact o5 _|exact o9 _|refine l9 ?_ λ_=>?_)|split|dsimp only|exact trivial
theorem b3K{fn:Fn}{a b:Array Value}:Mf P (Instr.makeFunc fn a b):=by
 try unfold Instr.makeFunc
 repeat' first|assumption|with_reducible exact o5 _|split|dsimp only|exact trivial
theorem b5n(t:TypeId)(r:Option Value):Mf P (Instr.makeMap t r):=by
 try unfold Instr.makeMap
 repeat' first|assumption|with_reducible (first|exact y8 _|exact o5 _|exact QD|exact o9 _|exact J_ _|refine l9 ?_ λ_=>?_)|split|dsimp only|exact trivial
theorem b2t(t:TypeId)(l c:Value):Mf P (Instr.makeSlice t l c):=by
 try unfold Instr.makeSlice
 repeat' first|assumption|with_reducible (first|exact y8 _|exact o5 _|exact O9 _|exact cH _|exact o9 _|exact J8 _|exact O0 _|exact U9 _|exact Ia _|exact G9 _|exact J_ _|refine l9 ?_ λ_=>?_|refine G6 _ ?_ ?_)|split|dsimp only|exact trivial
theorem c1b(t:TypeId){x:Value}(f:Nat):Mf P (Instr.field t x f):=by
 try unfold Instr.field
 repeat' first|assumption|with_reducible (first|exact y8 _|exact o9 _|exact xB _ _|exact c05|refine l9 ?_ λ_=>?_)|split|dsimp only|exact trivial
theorem c1c(t:TypeId){x:Value}(i:Value):Mf P (Instr.index t x i):=by
 try unfold Instr.index
 repeat' first|assumption|with_reducible (first|exact y8 _|exact o5 _|exact o9 _|exact O0 _|exact xB _ _|exact ef _ _ _ _|exact UJ _|refine l9 ?_ λ_=>?_|refine G6 _ ?_ ?_)|split|dsimp only|exact trivial
theorem b5o{x:Value}(i:Nat):Mf P (Instr.extract x i):=by
 try unfold Instr.extract
 repeat' first|assumption|with_reducible (first|exact y8 _|exact o5 _)|split|dsimp only|exact trivial
theorem b3L:Mf P Instr.panicnil:=by
 unfold Instr.panicnil;refine l9 u0 λ_=>?_;repeat' first|assumption|with_reducible (first|exact y8 _|exact o5 _|exact u0|refine J5 ?_|refine l9 ?_ λ_=>?_)|split|dsimp only|exact trivial
theorem DO(x:Value):Mf P (Instr.panic x):=by
 unfold Instr.panic;split
 ·exact trivial
 ·refine l9 b3L λ_=>?_;split
  ·exact trivial
  ·exact G9 _
 all_goals exact trivial
theorem b0g{x:Value}(t u:TypeId)(ok:Bool):Mf P (Instr.typeAssert x t u ok):=by
 try unfold Instr.typeAssert
 repeat' first|assumption|with_reducible (first|exact y8 _|exact o5 _|exact o9 _|exact J8 _|exact U9 _|exact G9 _|refine l9 ?_ λ_=>?_|refine G6 _ ?_ ?_)|split|dsimp only|exact trivial
theorem S8(op:BinOp)(k:IntKind)(x y:Int):Mf P (Op.intArith op k x y):=by
 try unfold Op.intArith
 repeat' first|assumption|with_reducible (first|exact y8 _|exact o5 _)|split|dsimp only|exact trivial
theorem MD(op:BinOp)(k:IntKind)(x y:Int):Mf P (Op.intBits op k x y):=by
 try unfold Op.intBits
 repeat' first|assumption|with_reducible (first|exact y8 _|exact o5 _)|split|dsimp only|exact trivial
theorem b8o(op:BinOp)(x y:Int):Mf P (Op.intCmp op x y):=by
 try unfold Op.intCmp
 repeat' first|assumption|with_reducible (first|exact y8 _|exact o5 _)|split|dsimp only|exact trivial
theorem b8p(op:BinOp)(k:IntKind)(x y:Int):Mf P (Op.intDiv op k x y):=by
 try unfold Op.intDiv
 repeat' first|assumption|with_reducible (first|exact y8 _|exact o5 _|exact G9 _|refine G6 _ ?_ ?_)|split|dsimp only|exact trivial
theorem c1d(op:BinOp)(k:IntKind)(x:Int)(k':IntKind)(y:Int):Mf P (Op.shift op k x k' y):=by
 try unfold Op.shift
 repeat' first|assumption|with_reducible (first|exact y8 _|exact o5 _|exact G9 _|refine G6 _ ?_ ?_)|split|dsimp only|exact trivial
theorem cL(op:BinOp)(x y:ByteArray):Mf P (Op.stringOp op x y):=by
 try unfold Op.stringOp
 repeat' first|assumption|with_reducible (first|exact y8 _|refine Q9 _ ?_|exact o5 _|refine G6 _ ?_ ?_)|split|dsimp only|exact trivial
theorem Z0(op:BinOp)(k:FloatKind)(x y:Nat):Mf P (Op.floatArith op k x y):=by
 try unfold Op.floatArith
 repeat' first|assumption|with_reducible (first|exact y8 _|exact o5 _|exact O9 _|refine l9 ?_ λ_=>?_)|split|dsimp only|exact trivial
theorem S7(op:BinOp)(k:FloatKind)(x y:Nat):Mf P (Op.floatCmp op k x y):=by
 try unfold Op.floatCmp
 repeat' first|assumption|with_reducible (first|exact y8 _|exact o5 _)|split|dsimp only|exact trivial
theorem b0h(k:FloatKind)(b:Nat)(d:IntKind):Mf P (Conv.floatToInt k b d):=by
 try unfold Conv.floatToInt
 repeat' first|assumption|with_reducible (first|exact o5 _|exact O9 _|refine l9 ?_ λ_=>?_|refine G6 _ ?_ ?_)|split|dsimp only|exact trivial
theorem eR(k:FloatKind)(b:Nat)(d:FloatKind):Mf P (Conv.floatToFloat k b d):=by
 try unfold Conv.floatToFloat
 repeat' first|assumption|with_reducible (first|exact o5 _|exact O9 _|refine l9 ?_ λ_=>?_|refine G6 _ ?_ ?_)|split|dsimp only|exact trivial
theorem xu(src:FloatKind)(x:Nat)(dst:FloatKind):Mf P (Op.Complex.conv src x dst):=by
 try unfold Op.Complex.conv
 repeat' first|assumption|with_reducible (first|exact y8 _|exact o5 _|exact eR _ _ _|refine l9 ?_ λ_=>?_|refine G6 _ ?_ ?_)|split|dsimp only|exact trivial
theorem EN(op:BinOp)(k:FloatKind)(x y:Nat):Mf P (Op.Complex.arith op k x y):=by
 try unfold Op.Complex.arith
 repeat' first|assumption|with_reducible (first|exact y8 _|exact o5 _|exact Z0 _ _ _ _|refine l9 ?_ λ_=>?_)|split|dsimp only|exact trivial
theorem Qn(op:BinOp)(k:FloatKind)(x y:Nat):Mf P (Op.Complex.cmp op k x y):=by
 try unfold Op.Complex.cmp
 repeat' first|assumption|with_reducible (first|exact Us _|exact S7 _ _ _ _|refine l9 ?_ λ_=>?_)|split|dsimp only|exact trivial
theorem zy(x y:Nat):Mf P (Op.Complex.mul x y):=EN _ _ _ _
theorem Zq(x y:Nat):Mf P (Op.Complex.add x y):=EN _ _ _ _
theorem Zp(x y:Nat):Mf P (Op.Complex.sub x y):=EN _ _ _ _
theorem c3C(x y:Nat):Mf P (Op.Complex.quo x y):=EN _ _ _ _
theorem MA(a b c d:Nat):Mf P (Op.Complex.product a b c d):=by
 unfold Op.Complex.product;exact l9 (zy _ _) λ_=>l9 (zy _ _) λ_=>l9 (Zp _ _) λ_=>l9 (zy _ _) λ_=>l9 (zy _ _) λ_=>l9 (Zq _ _) λ_=>trivial
theorem b2w(s a b c d:Nat):Mf P (Op.Complex.corrected s a b c d):=by
 unfold Op.Complex.corrected;exact l9 (zy _ _) λ_=>l9 (zy _ _) λ_=>l9 (Zq _ _) λ_=>l9 (zy _ _) λ_=>l9 (zy _ _) λ_=>l9 (zy _ _) λ_=>l9 (Zp _ _) λ_=>l9 (zy _ _) λ_=>trivial
theorem S5(a b c d:Nat):Mf P (Op.Complex.quotient a b c d):=by
 unfold Op.Complex.quotient;dsimp only
 repeat' first
  | with_reducible exact o5 _
  | with_reducible exact b2w _ _ _ _ _
  | with_reducible refine l9 (Qn _ _ _ _) λ_=>?_
  | with_reducible refine l9 (zy _ _) λ_=>?_
  | with_reducible refine l9 (Zq _ _) λ_=>?_
  | with_reducible refine l9 (Zp _ _) λ_=>?_
  | with_reducible refine l9 (c3C _ _) λ_=>?_
  | with_reducible refine l9 (o5 _) λ_=>?_
  | split
theorem b2x(op:BinOp)(k:FloatKind)(a b c d:Nat):Mf P (Op.complexOp op k a b c d):=by
 unfold Op.complexOp;split
 ·exact l9 (EN _ _ _ _) λ_=>l9 (EN _ _ _ _) λ_=>trivial
 ·exact l9 (EN _ _ _ _) λ_=>l9 (EN _ _ _ _) λ_=>trivial
 ·refine l9 (xu _ _ _) λ_=>l9 (xu _ _ _) λ_=>l9 (xu _ _ _) λ_=>l9 (xu _ _ _) λ_=>l9 ?_ λ_=>l9 (xu _ _ _) λ_=>l9 (xu _ _ _) λ_=>trivial;first|exact MA _ _ _ _|exact S5 _ _ _ _
 ·refine l9 (xu _ _ _) λ_=>l9 (xu _ _ _) λ_=>l9 (xu _ _ _) λ_=>l9 (xu _ _ _) λ_=>l9 ?_ λ_=>l9 (xu _ _ _) λ_=>l9 (xu _ _ _) λ_=>trivial;first|exact MA _ _ _ _|exact S5 _ _ _ _
 ·exact l9 (Qn _ _ _ _) λ_=>l9 (Qn _ _ _ _) λ_=>trivial
 ·exact l9 (Qn _ _ _ _) λ_=>l9 (Qn _ _ _ _) λ_=>trivial
 ·exact trivial
theorem c1e(op:UnOp)(x:Value):Mf P (Op.unary op x):=by
 try unfold Op.unary
 repeat' first|assumption|with_reducible (first|exact y8 _|refine Q9 _ ?_|exact o5 _|exact S8 _ _ _ _|exact MD _ _ _ _)|split|dsimp only|exact trivial
theorem ar{a b:Option Addr}:Mf P (samePointer a b):=by
 try unfold samePointer
 repeat' first|assumption|with_reducible (first|exact o5 _|exact cM)|split|dsimp only|exact trivial
theorem b5p :∀(n:Nat)(t:TypeId)(x y:Value),  Mf P (Op.equalIn n t x y):=by
 intro n
 induction n with
 | zero=>
  intros;try unfold Op.equalIn
  repeat' first|assumption|with_reducible (first|exact y8 _|refine Q9 _ ?_|exact o5 _|exact O9 _|exact o9 _|exact J8 _|exact O0 _|exact QK _|exact xB _ _|exact G9 _|exact Vu|exact cM|exact QB|exact ar|refine J5 ?_|refine l9 ?_ λ_=>?_|refine G6 _ ?_ ?_|refine EO _ λ_ _=>?_|refine Kz _ λ_ _=>?_)|split|dsimp only|exact trivial
 | succ n ih=>
  intros;try unfold Op.equalIn
  repeat' first|assumption|with_reducible (first|exact y8 _|refine Q9 _ ?_|exact o5 _|exact ih _ _ _|exact O9 _|exact o9 _|exact J8 _|exact O0 _|exact QK _|exact xB _ _|exact G9 _|exact Vu|exact cM|exact QB|exact ar|refine J5 ?_|refine l9 ?_ λ_=>?_|refine G6 _ ?_ ?_|refine EO _ λ_ _=>?_|refine Kz _ λ_ _=>?_)|split|dsimp only|exact trivial
theorem ZC(t:TypeId){x y:Value}:Mf P (Op.equal t x y):=by
 try unfold Op.equal
 repeat' first|assumption|with_reducible exact b5p _ _ _ _|split|dsimp only|exact trivial
theorem b2y :∀(n:Nat)(t:TypeId)(x y:Value),  Mf P (Op.eqGuardIn n t x y):=by
 intro n
 induction n with
 | zero=>
  intros;try unfold Op.eqGuardIn
  repeat' first|assumption|with_reducible (first|refine Q9 _ ?_|exact o5 _|exact o9 _|exact O0 _|exact xB _ _|refine l9 ?_ λ_=>?_|refine G6 _ ?_ ?_|refine EO _ λ_ _=>?_|refine Kz _ λ_ _=>?_)|split|dsimp only|exact trivial
 | succ n ih=>
  intros;try unfold Op.eqGuardIn
  repeat' first|assumption|with_reducible (first|refine Q9 _ ?_|exact o5 _|exact ih _ _ _|exact o9 _|exact O0 _|exact xB _ _|refine l9 ?_ λ_=>?_|refine G6 _ ?_ ?_|refine EO _ λ_ _=>?_|refine Kz _ λ_ _=>?_)|split|dsimp only|exact trivial
theorem b5q(op:BinOp)(t:TypeId)(x y:Operand){a b:Value}:Mf P (eqGuard op t x y a b):=by
 try unfold eqGuard
 repeat' first|assumption|with_reducible (first|refine Q9 _ ?_|exact o5 _|exact b2y _ _ _ _|refine J5 ?_|refine l9 ?_ λ_=>?_|refine G6 _ ?_ ?_)|split|dsimp only|exact trivial
theorem b0i(ts:Array TypeId)(t:TypeId){ptr:Option Addr}(y:Value):Mf P (Builtin.unsafeAdd_ ts t #[.pointer ptr,y]):=by
 unfold Builtin.unsafeAdd_;refine l9 (J_ _) λn=>?_;repeat' first|assumption|with_reducible (first|refine Q9 _ ?_|exact o5 _|exact wL _|exact J_ _|exact bh|refine J5 ?_|refine l9 ?_ λ_=>?_|refine G6 _ ?_ ?_)|split|dsimp only|exact trivial
theorem XS(ts:Array TypeId)(t:TypeId){args:Array Value}:Mf P (Builtin.unsafeAdd_ ts t args):=by
 obtain⟨l⟩:=args;rcases l with _|⟨x,_|⟨y,_|⟨z,l⟩⟩⟩
 ·exact trivial
 ·cases x<;>exact trivial
 ·cases x with
  | pointer p=>exact b0i ts t y
  | _=>exact trivial
 ·cases x<;>exact trivial
theorem a9u(t:TypeId){x y:Value}:Mf P (movedNumber t x y):=by
 try unfold movedNumber
 repeat' first|assumption|with_reducible (first|refine Q9 _ ?_|exact o5 _|exact o9 _|exact Vu|exact Ta _|exact XS _ _|refine l9 ?_ λ_=>?_|refine G6 _ ?_ ?_)|split|dsimp only|exact trivial
theorem a8s(t:TypeId){x y:Value}:Mf P (movedPointer t x y):=by
 try unfold movedPointer
 repeat' first|assumption|with_reducible (first|refine Q9 _ ?_|exact TO|exact XS _ _|refine l9 ?_ λ_=>?_|refine G6 _ ?_ ?_)|split|dsimp only|exact trivial
theorem W6{a b:Addr}:Mf P (Op.twoPlaces a b):=by
 try unfold Op.twoPlaces
 repeat' first|assumption|with_reducible (first|refine Q9 _ ?_|exact o5 _|exact QB|refine J5 ?_|refine l9 ?_ λ_=>?_|refine G6 _ ?_ ?_)|split|dsimp only|exact trivial
theorem b5r(k:IntKind){a b:Addr}:Mf P (Op.addrSub k a b):=by
 try unfold Op.addrSub
 repeat' first|assumption|with_reducible (first|exact o5 _|exact W6|refine l9 ?_ λ_=>?_)|split|dsimp only|exact trivial
theorem b5s(op:BinOp){a b:Addr}:Mf P (Op.addrCmp op a b):=by
 try unfold Op.addrCmp
 repeat' first|assumption|with_reducible (first|refine Q9 _ ?_|exact o5 _|exact W6|refine l9 ?_ λ_=>?_)|split|dsimp only|exact trivial
theorem b5t(k:IntKind){a:Addr}(n:Int):Mf P (Op.addrMod k a n):=by
 try unfold Op.addrMod
 repeat' first|assumption|with_reducible (first|refine Q9 _ ?_|exact o5 _|exact wL _|exact J8 _|exact QB|refine l9 ?_ λ_=>?_|refine G6 _ ?_ ?_)|split|dsimp only|exact trivial
theorem c1f(op:BinOp)(t:TypeId){x y:Value}:Mf P (binOp op t x y):=by
 try unfold binOp
 repeat' first|assumption|with_reducible (first|exact y8 _|refine Q9 _ ?_|exact o5 _|exact o9 _|exact Vu|exact S8 _ _ _ _|exact MD _ _ _ _|exact b8o _ _ _|exact b8p _ _ _ _|exact c1d _ _ _ _ _|exact cL _ _ _|exact Z0 _ _ _ _|exact S7 _ _ _ _|exact b2x _ _ _ _ _ _|exact ZC _|exact a9u _|exact a8s _|exact b5r _|exact b5s _|exact b5t _ _|refine l9 ?_ λ_=>?_|refine G6 _ ?_ ?_)|split|dsimp only|exact trivial
theorem a7d{x:Value}:Mf P (Conv.bytesToString x):=by
 try unfold Conv.bytesToString
 repeat' first|assumption|with_reducible (first|exact y8 _|exact o5 _|exact Vf _|refine l9 ?_ λ_=>?_|refine EO _ λ_ _=>?_)|split|dsimp only|exact trivial
theorem a7e{x:Value}:Mf P (Conv.runesToString x):=by
 try unfold Conv.runesToString
 repeat' first|assumption|with_reducible (first|exact y8 _|exact o5 _|exact Vf _|refine l9 ?_ λ_=>?_|refine EO _ λ_ _=>?_)|split|dsimp only|exact trivial
theorem a7f(e:TypeId)(s:ByteArray):Mf P (Conv.stringToBytes e s):=by
 try unfold Conv.stringToBytes
 repeat' first|assumption|with_reducible (first|exact o5 _|exact O9 _|exact Ia _|exact bo _|refine l9 ?_ λ_=>?_)|split|dsimp only|exact trivial
theorem a7g(e:TypeId)(s:ByteArray):Mf P (Conv.stringToRunes e s):=by
 try unfold Conv.stringToRunes
 repeat' first|assumption|with_reducible (first|exact o5 _|exact O9 _|exact Ia _|refine l9 ?_ λ_=>?_)|split|dsimp only|exact trivial
theorem b8q{a:Addr}:Mf P (Conv.seenAt a):=by
 try unfold Conv.seenAt
 repeat' first|assumption|with_reducible (first|refine Q9 _ ?_|exact o5 _|exact wL _|exact bh|refine J5 ?_|refine l9 ?_ λ_=>?_|refine G6 _ ?_ ?_)|split|dsimp only|exact trivial
theorem a7h(t u:TypeId){x:Value}:Mf P (Conv.unsafePointer t u x):=by
 try unfold Conv.unsafePointer
 repeat' first|assumption|with_reducible (first|exact y8 _|refine Q9 _ ?_|exact o5 _|exact QD|exact wL _|exact o9 _|exact O0 _|exact Ta _|exact b5i|exact a9q _ _ _|exact b8q|refine J5 ?_|refine l9 ?_ λ_=>?_|refine G6 _ ?_ ?_)|split|dsimp only|exact trivial
theorem a5e(s:FloatKind)(a b:Nat)(k:FloatKind):Mf P (Conv.complexToComplex s a b k):=by
 unfold Conv.complexToComplex;repeat' first|assumption|with_reducible (first|exact y8 _|exact o5 _|exact eR _ _ _|refine l9 ?_ λ_=>?_)|split|dsimp only|exact trivial
theorem b5u(t u:TypeId){x:Value}:Mf P (convert t u x):=by
 unfold convert
 repeat' first
  | with_reducible exact a5e _ _ _ _
  | assumption|with_reducible (first|exact y8 _|refine Q9 _ ?_|exact o5 _|exact o9 _|exact bo _|exact b0h _ _ _|exact eR _ _ _|exact a7d|exact a7e|exact a7f _ _|exact a7g _ _|exact a7h _ _|refine l9 ?_ λ_=>?_)|split|dsimp only|exact trivial
theorem cK(em:Bool):∀(n:Nat)(t:TypeId)(v:Value), Mf P (Instr.checkKey em n t v):=by
 intro n
 induction n with
 | zero=>
  intros;try unfold Instr.checkKey
  repeat' first|assumption|with_reducible (first|exact y8 _|refine Q9 _ ?_|exact o5 _|exact o9 _|exact J8 _|exact O0 _|exact QK _|exact xB _ _|exact G9 _|refine l9 ?_ λ_=>?_|refine G6 _ ?_ ?_|refine EO _ λ_ _=>?_|refine Kz _ λ_ _=>?_)|split|dsimp only|exact trivial
 | succ n ih=>
  intros;try unfold Instr.checkKey
  repeat' first|assumption|with_reducible (first|exact y8 _|refine Q9 _ ?_|exact o5 _|exact ih _ _|exact o9 _|exact J8 _|exact O0 _|exact QK _|exact xB _ _|exact G9 _|refine l9 ?_ λ_=>?_|refine G6 _ ?_ ?_|refine EO _ λ_ _=>?_|refine Kz _ λ_ _=>?_)|split|dsimp only|exact trivial
theorem b0j(t:TypeId){k:Value}:∀(l:List MapEntry)(i:Nat), Mf P (Instr.findAsking t k l i):=by
 intro l
 induction l with
 | nil=>
  intros;try unfold Instr.findAsking
  repeat' first|assumption|with_reducible (first|exact o5 _|exact ZC _|refine l9 ?_ λ_=>?_|refine G6 _ ?_ ?_)|split|dsimp only|exact trivial
 | cons x l ih=>
  intros;try unfold Instr.findAsking
  repeat' first|assumption|with_reducible (first|exact o5 _|exact ih _|exact ZC _|refine l9 ?_ λ_=>?_|refine G6 _ ?_ ?_)|split|dsimp only|exact trivial
theorem cG(t:TypeId){k:Value}{l:List MapEntry}:Mf P (Instr.findKey t k l):=by
 try unfold Instr.findKey
 repeat' first|assumption|with_reducible (first|exact o5 _|exact o9 _|exact b0j _ _ _|refine l9 ?_ λ_=>?_)|split|dsimp only|exact trivial
theorem b8r(t:TypeId){x i:Value}(ok:Bool):Mf P (Instr.lookup t x i ok):=by
 try unfold Instr.lookup
 repeat' first|assumption|with_reducible (first|exact y8 _|exact o5 _|exact zI|exact o9 _|exact U9 _|exact cK _ _ _ _|exact cG _|refine l9 ?_ λ_=>?_)|split|dsimp only|exact trivial
theorem a8t{a b:Value}:Mf P (Instr.keyThatStays a b):=by
 try unfold Instr.keyThatStays
 repeat' first|assumption|with_reducible (first|exact o5 _|exact O9 _|refine l9 ?_ λ_=>?_|refine G6 _ ?_ ?_)|split|dsimp only|exact trivial
theorem W4(t:TypeId){m k v:Value}:Mf P (Instr.mapUpdate t m k v):=by
 try unfold Instr.mapUpdate
 repeat' first|assumption|with_reducible (first|exact y8 _|exact zI|exact bp|exact o9 _|exact G9 _|exact cK _ _ _ _|exact cG _|exact a8t|refine l9 ?_ λ_=>?_)|split|dsimp only|exact trivial
theorem b8s(ts:Array TypeId)(t:TypeId){args:Array Value}:Mf P (Builtin.delete_ ts t args):=by
 try unfold Builtin.delete_
 repeat' first|assumption|with_reducible (first|exact y8 _|exact o5 _|exact zI|exact bp|exact o9 _|exact cK _ _ _ _|exact cG _|refine l9 ?_ λ_=>?_)|split|dsimp only|exact trivial
theorem c1g(t:TypeId){x:Value}:Mf P (Instr.range t x):=by
 try unfold Instr.range
 repeat' first|assumption|with_reducible (first|exact y8 _|exact o5 _|exact QD|exact zI|exact o9 _|refine l9 ?_ λ_=>?_)|split|dsimp only|exact trivial
theorem c3E{x:Value}(s:Bool)(t:TypeId):Mf P (Instr.next x s t):=by
 try unfold Instr.next
 repeat' first|assumption|with_reducible (first|exact y8 _|refine Q9 _ ?_|exact o5 _|exact zI|exact bp|exact O9 _|refine l9 ?_ λ_=>?_|refine G6 _ ?_ ?_)|split|dsimp only|exact trivial
theorem c1h{x:Value}:Mf P (Instr.entry x):=by
 try unfold Instr.entry
 repeat' first|assumption|with_reducible (first|exact y8 _|refine Q9 _ ?_|exact o5 _|exact zI|refine l9 ?_ λ_=>?_|refine G6 _ ?_ ?_)|split|dsimp only|exact trivial
theorem eI(a:Addr)(n:Nat):Mf P (Builtin.holdsCells a n):=by
 try unfold Builtin.holdsCells
 repeat' first|assumption|with_reducible (first|exact o5 _|exact wL _|refine l9 ?_ λ_=>?_)|split|dsimp only|exact trivial
theorem ZA(x:Value):Mf P (Builtin.lenOf x):=by
 try unfold Builtin.lenOf
 repeat' first|assumption|with_reducible (first|exact y8 _|exact o5 _)|split|dsimp only|exact trivial
theorem Vl(size n:Nat){x:Value}:Mf P (Builtin.firstCells size n x):=by
 try unfold Builtin.firstCells
 repeat' first|assumption|with_reducible (first|exact y8 _|exact o5 _|exact Vf _)|split|dsimp only|exact trivial
theorem S4(size l n:Nat)(base:Option Addr)(x:Value):Mf P (Builtin.mayShare size l n base x):=by
 try unfold Builtin.mayShare
 repeat' first|assumption|with_reducible (first|exact o5 _|exact bq _|exact eI _ _|refine l9 ?_ λ_=>?_|refine G6 _ ?_ ?_)|split|dsimp only|exact trivial
theorem S1(zeros:Bool)(size n:Nat)(elem:TypeId){x:Value}:Mf P (if (!zeros)=true then Builtin.firstCells size n x else if n*size=0 then pure #[] else do pure (Builtin.zeroCells (<-zeroValue elem).cells n)):=by
 repeat' first|assumption|with_reducible (first|exact o5 _|exact U9 _|exact Vl _ _|refine l9 ?_ λ_=>?_|refine G6 _ ?_ ?_)|split|dsimp only|exact trivial
theorem b8t(ts:Array TypeId)(t:TypeId){args:Array Value}:Mf P (Builtin.append_ ts t args):=by
 unfold Builtin.append_;split
 case h_2=>exact trivial
 refine l9 (o9 _) λd=>?_;split
 case h_2=>exact trivial
 repeat' first
  | with_reducible exact o5 _
  | with_reducible exact y8 _
  | with_reducible refine Q9 _ ?_
  | with_reducible exact o9 _
  | with_reducible refine l9 (o9 _) λ_=>?_
  | with_reducible exact O0 _
  | with_reducible refine l9 (O0 _) λ_=>?_
  | with_reducible exact J8 _
  | with_reducible refine l9 (J8 _) λ_=>?_
  | with_reducible exact J_ _
  | with_reducible refine l9 (J_ _) λ_=>?_
  | with_reducible exact ZA _
  | with_reducible refine l9 (ZA _) λ_=>?_
  | with_reducible exact O9 _
  | with_reducible refine l9 (O9 _) λ_=>?_
  | with_reducible exact cH _
  | with_reducible refine l9 (cH _) λ_=>?_
  | with_reducible exact S4 _ _ _ _ _
  | with_reducible refine l9 (S4 _ _ _ _ _) λ_=>?_
  | with_reducible exact U9 _
  | with_reducible refine l9 (U9 _) λ_=>?_
  | with_reducible exact Vl _ _
  | with_reducible refine l9 (Vl _ _) λ_=>?_
  | with_reducible exact Vm _ _
  | with_reducible refine l9 (Vm _ _) λ_=>?_
  | with_reducible exact Ia _
  | with_reducible refine l9 (Ia _) λ_=>?_
  | with_reducible exact G9 _
  | with_reducible refine l9 (G9 _) λ_=>?_
  | with_reducible exact S1 _ _ _ _
  | with_reducible refine l9 (S1 _ _ _ _) λ_=>?_
  | with_reducible exact eI _ _
  | with_reducible refine l9 (eI _ _) λ_=>?_
  | with_reducible refine l9 Hv λ_=>?_
  | with_reducible refine l9 (o5 _) λ_=>?_
  | with_reducible refine l9 (G6 _ (G9 _) ?_) λ_=>?_
  | with_reducible refine l9 ?_ λ_=>?_
  | with_reducible refine G6 _ ?_ ?_
  | split
  | dsimp only
  | exact trivial
theorem c3F(ts:Array TypeId)(t:TypeId){args:Array Value}:Mf P (Builtin.copy_ ts t args):=by
 try unfold Builtin.copy_
 repeat' first|assumption|with_reducible (first|exact y8 _|exact o5 _|exact o9 _|exact O0 _|exact Vm _ _|exact ZA _|exact Vl _ _|refine l9 ?_ λ_=>?_)|split|dsimp only|exact trivial
theorem BB(ts:Array TypeId)(t:TypeId){args:Array Value}:Mf P (Builtin.len_ ts t args):=by
 try unfold Builtin.len_
 repeat' first|assumption|with_reducible (first|exact y8 _|exact o5 _|exact zI|exact o9 _|refine l9 ?_ λ_=>?_)|split|dsimp only|exact trivial
theorem By(ts:Array TypeId)(t:TypeId){args:Array Value}:Mf P (Builtin.cap_ ts t args):=by
 try unfold Builtin.cap_
 repeat' first|assumption|with_reducible (first|exact y8 _|exact o5 _|exact zI|exact o9 _|refine l9 ?_ λ_=>?_)|split|dsimp only|exact trivial
theorem c3G(x y:Value):Mf P (Builtin.max2 x y):=by
 try unfold Builtin.max2
 repeat' first|assumption|with_reducible (first|exact y8 _|refine Q9 _ ?_|exact o5 _|exact O9 _|exact Us _|exact cL _ _ _|refine l9 ?_ λ_=>?_)|split|dsimp only|exact trivial
theorem c3H(x y:Value):Mf P (Builtin.min2 x y):=by
 try unfold Builtin.min2
 repeat' first|assumption|with_reducible (first|exact y8 _|refine Q9 _ ?_|exact o5 _|exact O9 _|exact Us _|exact cL _ _ _|refine l9 ?_ λ_=>?_)|split|dsimp only|exact trivial
theorem Be(ts:Array TypeId)(t:TypeId){args:Array Value}:Mf P (Builtin.max_ ts t args):=by
 try unfold Builtin.max_
 repeat' first|assumption|with_reducible (first|exact y8 _|exact c3G _ _|refine Hj _ (λ_ _=>?_) _ _)|split|dsimp only|exact trivial
theorem A6(ts:Array TypeId)(t:TypeId){args:Array Value}:Mf P (Builtin.min_ ts t args):=by
 try unfold Builtin.min_
 repeat' first|assumption|with_reducible (first|exact y8 _|exact c3H _ _|refine Hj _ (λ_ _=>?_) _ _)|split|dsimp only|exact trivial
theorem Tt(t:TypeId){x:Place}:Mf P (x.get t):=by
 unfold Place.get;repeat' first|assumption|with_reducible (first|exact o5 _|exact Ic _)|split|dsimp only|exact trivial
theorem b8u :∀(l:List FieldStep)(t:TypeId)(x:Place), Mf P (follow l t x):=by
 intro l
 induction l with
 | nil=>
  intros;try unfold follow
  repeat' first|assumption|with_reducible (first|exact y8 _|exact o5 _|exact o9 _|exact xB _ _|exact QC|exact eJ _|exact Tt _|refine l9 ?_ λ_=>?_|refine G6 _ ?_ ?_)|split|dsimp only|exact trivial
 | cons x l ih=>
  intros;try unfold follow
  repeat' first|assumption|with_reducible (first|exact y8 _|exact o5 _|exact ih _ _|exact o9 _|exact xB _ _|exact QC|exact eJ _|exact Tt _|refine l9 ?_ λ_=>?_|refine G6 _ ?_ ?_)|split|dsimp only|exact trivial
theorem c3I(t u:TypeId){v:Value}(a b:String):Mf P (Builtin.ssaWrapNilChk_ #[t] u #[v,strVal a,strVal b]):=by
 unfold Builtin.ssaWrapNilChk_
 cases v with
 | pointer p=>
  cases p with
  | some p=>exact trivial
  | none=>
   refine l9 (O9 (.extern "ssa:wrapnilchk.dereferenced" 2)) λc=>?_;dsimp only
   repeat' first|assumption|with_reducible (first|exact y8 _|refine Q9 _ ?_|exact O9 _|exact o9 _|exact J8 _|exact G9 _|refine l9 ?_ λ_=>?_|refine G6 _ ?_ ?_)|split|dsimp only|exact trivial
 | _=>exact trivial
theorem b0k(t:TypeId){x:Place}(pr:Bool)(w:Option String):Mf P (receiverAt t x pr w):=by
 try unfold receiverAt
 repeat' first|assumption|with_reducible (first|exact y8 _|exact o5 _|exact o9 _|exact Ic _|exact QC|exact Tt _|exact c3I _ _ _ _|refine l9 ?_ λ_=>?_)|split|dsimp only|exact trivial
theorem bj :∀(l:List FieldStep)(t:TypeId)(x:Option Value),Mf P (followBlind l t x):=by
 intro l
 induction l with
 | nil=>
  intros;try unfold followBlind
  repeat' first|assumption|with_reducible (first|exact y8 _|exact o5 _|exact o9 _|exact xB _ _|refine l9 ?_ λ_=>?_)|split|dsimp only|exact trivial
 | cons x l ih=>
  intros;try unfold followBlind
  repeat' first|assumption|with_reducible (first|exact y8 _|exact o5 _|exact ih _ _|exact o9 _|exact xB _ _|refine l9 ?_ λ_=>?_)|split|dsimp only|exact trivial
theorem b3N{name:String}:∀(n:Nat)(t:TypeId)(v:Value), Mf P (nilAhead n t v name):=by
 intro n
 induction n with
 | zero=>
  intros;try unfold nilAhead
  repeat' first|assumption|with_reducible (first|exact y8 _|exact o5 _|exact o9 _|exact J8 _|exact bj _ _ _|refine l9 ?_ λ_=>?_)|split|dsimp only|exact trivial
 | succ n ih=>
  intros;try unfold nilAhead
  repeat' first|assumption|with_reducible (first|exact y8 _|exact o5 _|exact ih _ _|exact o9 _|exact J8 _|exact bj _ _ _|refine l9 ?_ λ_=>?_)|split|dsimp only|exact trivial
end
end
section
open Zn (fU)
variable{P:Program}
def bN:Builtin->Bool
 | .append|.cap|.copy|.delete|.len|.max|.min|.panic=>true
 | _=>false
structure kK where
 F:FuncId->Prop
 N:String->Prop
def Zy(D:kK):Callee->Prop
 | .value (.func f)=>D.F f
 | .invoke _ n=>D.N n
 | .builtin b=>bN b=true
 | _=>False
def rW(D:kK):Op->Prop
 | .call c=>Zy D c.callee
 | .go _|.defer _|.send .. | .recv .. | .select .. | .makeChan .. | .ready _|.waits _|.mapEntry .. | .entryStore .. | .sliceToArrayPointer ..=>False
 | _=>True
def GN(D:kK):Next->Prop
 | .value _=>True
 | .skip=>True
 | .enter f _=>D.F f
 | _=>False
structure PN(D:kK)(P:Program):Prop where
 methods:∀t i,P.info? t=some i->∀m∈i.methods,D.N m.name->∀f p,m.func=some (f,p)->D.F f
 num:∀f fn,D.F f->P.funcs[f]?=some fn->(fn.name== "runtime.NumGoroutine")=false
 ext:∀f fn,D.F f->P.funcs[f]?=some fn->fn.body=none->Extern.findNext fn=none/\∀e args,Extern.find fn=some e->Mf P (e args)
variable{D:kK}
theorem lu{s:Sem Value}(h:Mf P s):Nf P (GN D) (do pure (.value (<-s))):=Nf.bind h λ_ _=>trivial
theorem YE{s:Sem Unit}(h:Mf P s):Nf P (GN D) (do s;pure .skip):=Nf.bind h λ_ _=>trivial
theorem YT{α:Type}{Q:α->Prop}(e:RuntimeError):Nf P Q (runtimePanic e:Sem α):=by
 unfold runtimePanic;refine Nf.bind (R:=λp=>p=P) rfl ?_;rintro p rfl;dsimp only
 split<;>first
  | exact trivial
  | exact Nf.bind (bk _) λ_ _=>Nf.bind (Ky _) λ_ _=>trivial
theorem b5w(b:Builtin)(hb:bN b=true)(ts:Array TypeId)(t:TypeId)(cs:Array Bool){args:Array Value}:Nf P (GN D) (builtin b ts t cs args):=by
 unfold builtin
 cases b<;>first
  | exact lu (b8t _ _)
  | exact lu (By _ _)
  | exact lu (c3F _ _)
  | exact lu (b8s _ _)
  | exact lu (BB _ _)
  | exact lu (Be _ _)
  | exact lu (A6 _ _)
  | exact lu (DO _)
  | cases hb
theorem SJ(hP:PN D P){f:FuncId}(hf:D.F f){args:Array Value}:Nf P (GN D) (callFunc f args):=by
 unfold callFunc;refine Nf.bind (R:=λp=>p=P) rfl ?_;rintro p rfl
 cases hfn:p.funcs[f]? with
 | none=>exact trivial
 | some fn=>
  dsimp only;rw[hP.num f fn hf hfn];rw[if_neg (by simp)]
  cases hb:fn.body with
  | some c=>
   rw[if_neg (by simp)]
   exact hf
  | none=>
   obtain⟨h1,h2⟩:=hP.ext f fn hf hfn hb;rw[if_pos (by simp)];refine Nf.bind (R:=λ_=>True) ⟨trivial,trivial⟩ λ_ _=>?_
   cases hn:Extern.findNext fn with
   | some e=>rw[h1] at hn;cases hn
   | none=>
    dsimp only
    cases hx:Extern.find fn with
    | some e=>exact Nf.bind (h2 e args hx) λv hv=>trivial
    | none=>
     dsimp only;split<;>exact trivial
theorem b8y(hP:PN D P){name:String}(hn:D.N name):∀(n:Nat)(t:TypeId)(v:Value),Nf P (λr=>D.F r.1) (method n t v name):=by
 intro n
 induction n with
 | zero=>intro t v;exact trivial
 | succ n ih=>
  intro t v;unfold method;refine Nf.bind (R:=λi=>P.info? t=some i) ?_ λi hi=>?_
  ·unfold typeInfo;refine Nf.bind (R:=λp=>p=P) rfl ?_;rintro p rfl;split
   ·assumption
   ·exact trivial
  split
  ·rename_i m hm;have hmem:=lS hm;have hname:m.name=name:=by have:=Array.find?_some hm;simpa using this
   refine Nf.bind (b8u _ _ _) λr _=>?_;obtain⟨xt,x⟩:=r;dsimp only;split
   ·refine Nf.bind (Tt _) λw _=>?_;split
    ·exact ih _ _
    ·exact YT _
    ·exact trivial
   ·rename_i f pr hf;exact Nf.bind (b0k _ _ _) λw _=>hP.methods t i hi m hmem (hname▸hn) f pr hf
  ·exact trivial
theorem b0l(hP:PN D P)(recv:Value){name:String}(hn:D.N name){args:Array Value}:Nf P (GN D) (callMethod recv name args):=by
 unfold callMethod
 cases recv with
 | iface t v=>
  refine Nf.bind (R:=λ_=>True) trivial λp _=>Nf.bind (b8y hP hn _ _ _) λr hr=>?_;obtain⟨f,w⟩:=r
  exact SJ hP hr
 | nilIface=>exact YT _
 | _=>exact trivial
theorem b8z(hP:PN D P){ρ:Operand->Value}{o:Oper}(hk:rW D o.op)(hρ:∀f,ρ (.func f)=.func (.func f) #[] #[]):Nf P (GN D) (execOp ρ o):=by
 obtain⟨dst,op,type,pos,after,guard⟩:=o;dsimp only at hk;unfold execOp
 cases op with
 | move x=>exact trivial
 | assign x=>exact trivial
 | pick c a b=>exact Nf.bind (Us _) λ_ _=>trivial
 | alloc e=>exact lu (c07 _)
 | box e x=>exact lu (BC _)
 | build t ps=>exact lu (c08 _)
 | buildSlice t l ps=>exact lu (b0e _ _)
 | load t a=>exact lu (b8n _)
 | store t a x=>exact YE (b5j _)
 | nilCheck x=>
  dsimp only;generalize ρ x=v
  repeat' first
   | exact trivial
   | exact YT _
   | refine Nf.bind (R:=λ_=>True) trivial λ_ _=>?_
   | refine Nf.bind (b3N _ _ _) λ_ _=>?_
   | split
 | binOp op t x y u=>exact lu (l9 (b5q _ _ _ _) λ_=>c1f _ _)
 | unOp op t x=>exact lu (c1e _ _)
 | convert s d x=>exact lu (b5u _ _)
 | makeInterface t x=>exact lu (a7c _)
 | makeFunc fn f c=>exact lu b3K
 | makeMap t r=>exact lu (b5n _ _)
 | makeSlice t l c=>exact lu (b2t _ _ _)
 | slice t x l h m=>exact lu (b5m _ _ _ _)
 | fieldAddr s x f=>exact lu (b5k _ _)
 | field t x f=>exact lu (c1b _ _)
 | indexAddr t x i=>exact lu (b5l _ _)
 | index t x i=>exact lu (c1c _ _)
 | lookup t x i ok=>exact lu (b8r _ _)
 | mapUpdate t m k x=>exact YE (W4 _)
 | insert t m k x=>exact YE (W4 _)
 | range t x=>exact lu (c1g _)
 | next x s=>exact lu (c3E _ _)
 | entry x=>exact lu c1h
 | typeAssert x t u ok=>exact lu (b0g _ _ _)
 | extract x i=>exact lu (b5o _)
 | panic x=>exact lu (DO _)
 | call c=>
  replace hk:Zy D c.callee:=hk;refine Nf.bind (R:=λd=>(∃f l,d.target=.fn (.func f) l/\D.F f)\/(∃n l,d.target=.fn (.method n) l/\D.N n)\/∃b ts t cs,d.target=.builtin b ts t cs/\bN b=true) ?_ ?_
  ·unfold resolve;dsimp only
   cases e:c.callee with
   | builtin b=>rw[e] at hk;exact .inr (.inr ⟨_,_,_,_,rfl,hk⟩)
   | invoke r n=>rw[e] at hk;exact .inr (.inl ⟨_,_,rfl,hk⟩)
   | value x=>
    rw[e] at hk
    cases x with
    | func f=>
     dsimp only;rw[hρ]
     exact .inl ⟨_,_,rfl,hk⟩
    | _=>exact hk.elim
  ·rintro⟨t,args⟩ (⟨f,l,rfl,hf⟩|⟨n,l,rfl,hn⟩|⟨b,ts,t,cs,rfl,hb⟩)
   ·exact SJ hP hf
   ·unfold invoke;dsimp only
    cases e:args[0]? with
    | none=>exact trivial
    | some recv=>exact b0l hP _ hn
   ·exact b5w b hb ts t cs
 | _=>exact hk.elim
end
section
open Zn (fU dV bind_ok Qj)
variable{P:Program}
def qh(n:Nat)(e:Event):Prop:=
 match e.loc with
 | .cell a=>a.block<n
 | .obj r=>r<n
 | .mark m=>fU m
 | .output=>True
 | .goroutines=>False
theorem qh.mono{n m:Nat}(h:n<=m){e:Event}(k:qh n e):qh m e:=by
 unfold qh at *;split at k
 ·exact ak k h
 ·exact ak k h
 ·exact k
 ·trivial
 ·exact k.elim
theorem Dm{w:World}{a:Addr}{v:Value}(h:w.cell? a=some v):a.block<w.heap.size:=by
 unfold World.cell? at h
 cases e:w.heap[a.block]? with
 | none=>rw[e] at h;cases h
 | some o=>exact(aN.1 e).1
theorem c3J{w:World}{a:Addr}{at_:Bool}{v:Value}{l:List Addr}(h:w.farLoad P a at_=.ok (v,l)):∀x∈l,x.block<w.heap.size:=by
 unfold World.farLoad at h
 cases ho:w.heap[a.block]? with
 | none=>rw[ho] at h;cases h
 | some o=>
  rw[ho] at h
  cases o with
  | view at0 u=>
   dsimp only at h
   cases hv:w.viewLoad P at0 u a at_ with
   | error x=>rw[hv] at h;cases h
   | ok r=>
    rw[hv] at h;injection h with h;subst h;unfold World.viewLoad at hv;obtain⟨⟨c,e,fr,first,like,cells⟩,h1,h2⟩:=bind_ok hv;have h3:=Qj h1;dsimp only at h2;split at h2
    ·injection h2 with h2;injection h2 with h2 h4;subst h4;intro x hx;obtain⟨y,-,rfl⟩:=bg.1 hx;exact(aN.1 h3).1
    ·cases h2
  | _=>cases h
theorem Db{w w':World}{a:Addr}{at_:Bool}{v:Value}{l:List Addr}(h:w.farStore P a v at_=.ok (w',l)):w'.heap.size=w.heap.size/\∀x∈l,x.block<w.heap.size:=by
 unfold World.farStore at h
 cases ho:w.heap[a.block]? with
 | none=>rw[ho] at h;cases h
 | some o=>
  rw[ho] at h
  cases o with
  | view at0 u=>
   dsimp only at h
   cases hv:w.viewStore P at0 u a v at_ with
   | error x=>rw[hv] at h;cases h
   | ok r=>
    rw[hv] at h;injection h with h;subst h;unfold World.viewStore at hv;by_cases ht:(!tight P P.depth u)=true
    ·rw[if_pos ht] at hv;cases hv
    ·rw[if_neg ht] at hv;obtain⟨⟨c,e,fr,first,like,cells⟩,h1,h2⟩:=bind_ok hv;have h3:=Qj h1;dsimp only at h2;split at h2
     case h_2=>cases h2
     rename_i bytes hby;by_cases hl:some bytes.length≠like.bytes?.map (·.length)
     ·rw[if_pos hl] at h2;cases h2
     rw[if_neg hl] at h2;obtain⟨c',h4,h5⟩:=bind_ok h2;injection h5 with h5;injection h5 with h5 h6;subst h5 h6;refine⟨by simp,λx hx=>?_⟩;obtain⟨y,-,rfl⟩:=bg.1 hx
     exact(aN.1 h3).1
  | _=>cases h
theorem Nf.low{α:Type}{Q:α->Prop}{s:Sem α}(h:Nf P Q s):∀{w w':World}{es es':Array Event}{v:α},s.runT P w es=(.ok v w',es')->Q v/\w.heap.size<=w'.heap.size/\((∀e∈es,qh w.heap.size e)->∀e∈es',qh w'.heap.size e):=by
 have push:∀{es:Array Event}{n:Nat}{x:Event},(∀e∈es,qh n e)->qh n x->∀e∈es.push x,qh n e:=λh1 h2 e he=>by
  rcases IE.1 he with he|rfl
  ·exact h1 e he
  ·exact h2
 have apps:∀{es:Array Event}{n:Nat}{l:List Addr}{b c:Bool},(∀e∈es,qh n e)->(∀x∈l,x.block<n)->∀e∈es++l.toArray.map (λx=>(⟨.cell x,b,c⟩:Event)),qh n e:=λh1 h2 e he=>by
  rcases dh.1 he with he|he
  ·exact h1 e he
  ·obtain⟨x,hx,rfl⟩:=gI.1 he;exact h2 x (by simpa using hx)
 induction s with
 | halt x=>intro w w' es es' v hr;cases hr
 | pure a=>
  intro w w' es es' v hr;simp only[Sem.runT,kH,Result.ok.injEq] at hr;obtain⟨⟨rfl,rfl⟩,rfl⟩:=hr
  exact⟨h,aj _,id⟩
 | load m a k ih=>
  intro w w' es es' v hr;simp only[Sem.runT] at hr
  cases hc:w.cell? a with
  | some x=>
   rw[hc] at hr;obtain⟨h1,h2,h3⟩:=ih x (h x) hr
   exact⟨h1,h2,λhe=>h3 (push he (Dm hc))⟩
  | none=>
   rw[hc] at hr;dsimp only at hr
   cases hf:w.farLoad P a (m==.atomic) with
   | error x=>rw[hf] at hr;cases hr
   | ok r=>
    obtain⟨x,l⟩:=r;rw[hf] at hr;obtain⟨h1,h2,h3⟩:=ih x (h x) hr
    exact⟨h1,h2,λhe=>h3 (apps he (c3J hf))⟩
 | store m a x k ih=>
  intro w w' es es' v hr
  have e1:(Sem.store m a x k).runT P w es=match w.cell? a with
   | some _=>if w.frozen? a then(.halt (.unsupported (.unsafePointer "a write to bytes that a string shares")) w,es) else k.runT P (w.setCell a x) (es.push ⟨.cell a,true,m==.atomic⟩)
   | none=>match w.farStore P a x (m==.atomic) with
    | .ok (w,touched)=>k.runT P w (es++touched.toArray.map (⟨.cell ·,true,m==.atomic⟩))
    | .error h=>(.halt h w,es):=by
   cases x<;>first|rfl|(exfalso;cases hr)
  rw[e1] at hr
  cases hc:w.cell? a with
  | some y=>
   rw[hc] at hr;dsimp only at hr;split at hr
   ·cases hr
   ·obtain⟨h1,h2,h3⟩:=ih h hr;have hz:(w.setCell a x).heap.size=w.heap.size:=by simp[World.setCell]
    rw[hz] at h2 h3
    exact⟨h1,h2,λhe=>h3 (push he (Dm hc))⟩
  | none=>
   rw[hc] at hr;dsimp only at hr
   cases hf:w.farStore P a x (m==.atomic) with
   | error y=>rw[hf] at hr;cases hr
   | ok r=>
    obtain⟨w1,l⟩:=r;rw[hf] at hr;obtain⟨h1,h2,h3⟩:=ih h hr;obtain⟨hz,hl⟩:=Db hf;rw[hz] at h2 h3
    exact⟨h1,h2,λhe=>h3 (apps he hl)⟩
 | new o k ih=>
  intro w w' es es' v hr;obtain⟨h1,h2,h3⟩:=ih _ (h _) (show(k w.heap.size).runT P {w with heap:=w.heap.push o} es=_ from hr);have hz:(w.heap.push o).size=w.heap.size+1:=fJ _;dsimp only at h2 h3;rw[hz] at h2 h3
  exact⟨h1,by omega,λhe=>h3 λe hx=>(he e hx).mono (by omega)⟩
 | shape r k ih=>intro w w' es es' v hr;exact ih _ (h _) (show(k (w.shape? r)).runT P w es=_ from hr)
 | freeze a n k ih=>
  intro w w' es es' v hr;obtain⟨h1,h2,h3⟩:=ih h (show k.runT P (w.freeze a n) es=_ from hr);have hz:(w.freeze a n).heap.size=w.heap.size:=by unfold World.freeze;split<;>simp
  rw[hz] at h2 h3
  exact⟨h1,h2,h3⟩
 | frozen a k ih=>intro w w' es es' v hr;exact ih _ (h _) (show(k (w.frozen? a)).runT P w es=_ from hr)
 | getObj r k ih=>
  intro w w' es es' v hr;simp only[Sem.runT] at hr;split at hr
  ·cases hr
  ·rename_i o ho _;obtain⟨h1,h2,h3⟩:=ih o (h o) hr;exact⟨h1,h2,λhe=>h3 (push he (show r<_ from(aN.1 (by assumption)).1))⟩
  ·cases hr
 | setObj r o k ih=>
  intro w w' es es' v hr;simp only[Sem.runT] at hr;split at hr
  ·cases hr
  ·obtain⟨h1,h2,h3⟩:=ih h hr;dsimp only at h2 h3;rw[RY] at h2 h3;exact⟨h1,h2,λhe=>h3 (push he (show r<_ from(aN.1 (by assumption)).1))⟩
  ·cases hr
 | choose q k ih=>
  intro w w' es es' v hr;simp only[Sem.runT] at hr;split at hr
  ·exact ih _ (h _) hr
  ·exact ih _ (h _) (w:={w with drawn:=w.drawn+1}) hr
 | sys c k ih=>
  intro w w' es es' v hr;obtain⟨rfl,hk⟩:=h;obtain⟨h1,h2,h3⟩:=ih _ (hk _) (show(k (w.sys .env).1).runT P (w.sys .env).2 (es.push ⟨.output,true,false⟩)=_ from hr);have hz:(w.sys .env).2.heap.size=w.heap.size:=rfl;rw[hz] at h2 h3
  exact⟨h1,h2,λhe=>h3 (push he trivial)⟩
 | program k ih=>intro w w' es es' v hr;exact ih P h (show(k P).runT P w es=_ from hr)
 | mark m k ih=>
  intro w w' es es' v hr;obtain⟨h1,h2,h3⟩:=ih h.2 (show k.runT P w (es.push ⟨.mark m,false,true⟩)=_ from hr);exact⟨h1,h2,λhe=>h3 (push he h.1)⟩
def jW(w:World)(b:Nat):Prop:=∃c e f,w.heap[b]?=some (.cells c e f)
def Rows(w w':World):Prop:=w.heap.size<=w'.heap.size/\∀b,jW w b->jW w' b
theorem Rows.refl(w:World):Rows w w:=⟨aj _,λ_ h=>h⟩
theorem Rows.trans{a b c:World}(h:Rows a b)(k:Rows b c):Rows a c:=⟨ay h.1 k.1,λx hx=>k.2 x (h.2 x hx)⟩
theorem b2C(w:World)(a:Addr)(v:Value):Rows w (w.setCell a v):=by
 refine⟨by simp[World.setCell],?_⟩;rintro b ⟨c,e,f,h⟩;unfold World.setCell jW;dsimp only;rw[aO,h];by_cases hb:a.block=b
 ·rw[if_pos hb];exact⟨_,_,_,rfl⟩
 ·rw[if_neg hb];exact⟨_,_,_,rfl⟩
theorem b3S(w:World)(a:Addr)(n:Nat):Rows w (w.freeze a n):=by
 refine⟨by unfold World.freeze;split<;>simp,?_⟩;rintro b ⟨c,e,f,h⟩;unfold World.freeze jW;split
 ·exact⟨_,_,_,h⟩
 ·dsimp only;rw[aO,h];by_cases hb:a.block=b
  ·rw[if_pos hb];obtain⟨lo,hi⟩:=f;exact⟨_,_,_,rfl⟩
  ·rw[if_neg hb];exact⟨_,_,_,rfl⟩
theorem c1l(w:World)(o:Obj):Rows w {w with heap:=w.heap.push o}:=by
 refine⟨by simp,?_⟩;rintro b ⟨c,e,f,h⟩;have:=(aN.1 h).1;exact⟨c,e,f,by show(w.heap.push o)[b]?=_;rw[dN,if_neg (by omega)];exact h⟩
theorem Da(w:World){r:Nat}{o o':Obj}(ho:w.heap[r]?=some o')(hn:∀c e f,o'≠.cells c e f):Rows w {w with heap:=w.heap.setIfInBounds r o}:=by
 refine⟨by simp,?_⟩;rintro b ⟨c,e,f,h⟩;have hb:r≠b:=by
  rintro rfl;rw[ho] at h;injection h with h;exact hn _ _ _ h
 exact⟨c,e,f,by show(w.heap.setIfInBounds r o)[b]?=_;rw[aK hb];exact h⟩
theorem c1m{w w':World}{a:Addr}{at_:Bool}{v:Value}{l:List Addr}(h:w.farStore P a v at_=.ok (w',l)):Rows w w':=by
 refine⟨dS (Db h).1.symm,?_⟩;unfold World.farStore at h
 cases ho:w.heap[a.block]? with
 | none=>rw[ho] at h;cases h
 | some o=>
  rw[ho] at h
  cases o with
  | view at0 u=>
   dsimp only at h
   cases hv:w.viewStore P at0 u a v at_ with
   | error x=>rw[hv] at h;cases h
   | ok r=>
    rw[hv] at h;injection h with h;subst h;unfold World.viewStore at hv;by_cases ht:(!tight P P.depth u)=true
    ·rw[if_pos ht] at hv;cases hv
    ·rw[if_neg ht] at hv;obtain⟨⟨c,e,fr,first,like,cells⟩,h1,h2⟩:=bind_ok hv;dsimp only at h2;split at h2
     case h_2=>cases h2
     rename_i bytes hby;by_cases hl:some bytes.length≠like.bytes?.map (·.length)
     ·rw[if_pos hl] at h2;cases h2
     rw[if_neg hl] at h2;obtain⟨c',h4,h5⟩:=bind_ok h2;injection h5 with h5;injection h5 with h5 h6;subst h5 h6;rintro b ⟨c0,e0,f0,hb⟩;by_cases hx:at0.block=b
     ·subst hx;have hlt:=(aN.1 hb).1;exact⟨_,_,_,by show(w.heap.setIfInBounds at0.block _)[at0.block]?=_;rw[bT hlt]⟩
     ·exact⟨c0,e0,f0,by show(w.heap.setIfInBounds at0.block _)[b]?=_;rw[aK hx];exact hb⟩
  | _=>cases h
def Short(u:World)(x:Halt):Prop:=dV x\/∃g,x=.unsupported (.initOrder g)/\¬jW u g
def vb{α:Type}:Result α->World
 | .ok _ w=>w
 | .halt _ w=>w
theorem W2(w:World)(a:Addr)(t:String):Short w (w.noCell a t):=by
 unfold World.noCell;split
 ·rename_i h;exact .inr ⟨_,rfl,λ⟨c,e,f,h'⟩=>by rw[h] at h';cases h'⟩
 ·exact .inl trivial
 ·exact .inl trivial
theorem b8A{w:World}{a:Addr}{b:Bool}{x:Halt}(h:w.farLoad P a b=.error x):Short w x:=by
 unfold World.farLoad at h;split at h
 ·split at h
  ·cases h
  ·injection h with h;subst h;exact .inl trivial
 ·injection h with h;subst h;exact W2 _ _ _
theorem b5x{w:World}{a:Addr}{v:Value}{b:Bool}{x:Halt}(h:w.farStore P a v b=.error x):Short w x:=by
 unfold World.farStore at h;split at h
 ·split at h
  ·cases h
  ·injection h with h;subst h;exact .inl trivial
 ·injection h with h;subst h;exact W2 _ _ _
theorem Nf.run{α:Type}{Q:α->Prop}{s:Sem α}(h:Nf P Q s):∀(w:World)(es:Array Event),Rows w (vb (s.runT P w es).1)/\∀x u,(s.runT P w es).1=.halt x u->Short u x:=by
 induction s with
 | halt x=>
  intro w es;refine⟨Rows.refl w,λy u e=>?_⟩;simp only[Sem.runT,Result.halt.injEq] at e;obtain⟨rfl,rfl⟩:=e
  exact .inl h
 | pure a=>intro w es;exact⟨Rows.refl w,λy u e=>by cases e⟩
 | load m a k ih=>
  intro w es;simp only[Sem.runT]
  cases hc:w.cell? a with
  | some x=>exact ih x (h x) w _
  | none=>
   dsimp only
   cases hf:w.farLoad P a (m==.atomic) with
   | error x=>
    refine⟨Rows.refl w,λy u e=>?_⟩;simp only[Result.halt.injEq] at e;obtain⟨rfl,rfl⟩:=e
    exact b8A hf
   | ok r=>exact ih _ (h _) w _
 | store m a x k ih=>
  intro w es
  have e1:(∃t,(Sem.store m a x k).runT P w es=(.halt (.stuck t) w,es))\/(Sem.store m a x k).runT P w es=match w.cell? a with
   | some _=>if w.frozen? a then(.halt (.unsupported (.unsafePointer "a write to bytes that a string shares")) w,es) else k.runT P (w.setCell a x) (es.push ⟨.cell a,true,m==.atomic⟩)
   | none=>match w.farStore P a x (m==.atomic) with
    | .ok (w,touched)=>k.runT P w (es++touched.toArray.map (⟨.cell ·,true,m==.atomic⟩))
    | .error h=>(.halt h w,es):=by
   cases x<;>first|exact .inl ⟨_,rfl⟩|exact .inr rfl
  rcases e1 with⟨t,e1⟩|e1
  ·rw[e1];exact⟨Rows.refl w,λy u e=>by
    simp only[Result.halt.injEq] at e;obtain⟨rfl,rfl⟩:=e;exact .inl trivial⟩
  rw[e1]
  cases hc:w.cell? a with
  | some y=>
   dsimp only;split
   ·exact⟨Rows.refl w,λy u e=>by
     simp only[Result.halt.injEq] at e;obtain⟨rfl,rfl⟩:=e;exact .inl trivial⟩
   ·obtain⟨h1,h2⟩:=ih h (w.setCell a x) (es.push ⟨.cell a,true,m==.atomic⟩)
    exact⟨(b2C w a x).trans h1,h2⟩
  | none=>
   dsimp only
   cases hf:w.farStore P a x (m==.atomic) with
   | error y=>
    exact⟨Rows.refl w,λz u e=>by
     simp only[Result.halt.injEq] at e;obtain⟨rfl,rfl⟩:=e
     exact b5x hf⟩
   | ok r=>
    obtain⟨h1,h2⟩:=ih h r.1 (es++r.2.toArray.map (⟨.cell ·,true,m==.atomic⟩))
    exact⟨(c1m hf).trans h1,h2⟩
 | new o k ih=>
  intro w es;obtain⟨h1,h2⟩:=ih _ (h w.heap.size) {w with heap:=w.heap.push o} es
  exact⟨(c1l w o).trans h1,h2⟩
 | shape r k ih=>intro w es;exact ih _ (h _) w es
 | freeze a n k ih=>
  intro w es;obtain⟨h1,h2⟩:=ih h (w.freeze a n) es
  exact⟨(b3S w a n).trans h1,h2⟩
 | frozen a k ih=>intro w es;exact ih _ (h _) w es
 | getObj r k ih=>
  intro w es;simp only[Sem.runT];split
  ·exact⟨Rows.refl w,λz u e=>by
    simp only[Result.halt.injEq] at e;obtain⟨rfl,rfl⟩:=e;exact .inl trivial⟩
  ·exact ih _ (h _) w _
  ·exact⟨Rows.refl w,λz u e=>by
    simp only[Result.halt.injEq] at e;obtain⟨rfl,rfl⟩:=e
    exact .inl trivial⟩
 | setObj r o k ih=>
  intro w es;simp only[Sem.runT];split
  ·exact⟨Rows.refl w,λz u e=>by
    simp only[Result.halt.injEq] at e;obtain⟨rfl,rfl⟩:=e;exact .inl trivial⟩
  ·rename_i o' ho hn;obtain⟨h1,h2⟩:=ih h {w with heap:=w.heap.setIfInBounds r o} (es.push ⟨.obj r,true,o.isChan⟩);exact⟨(Da w hn λc e f he=>ho c e f he).trans h1,h2⟩
  ·exact⟨Rows.refl w,λz u e=>by
    simp only[Result.halt.injEq] at e;obtain⟨rfl,rfl⟩:=e
    exact .inl trivial⟩
 | choose q k ih=>
  intro w es;simp only[Sem.runT];split
  ·exact ih _ (h _) w es
  ·exact ih _ (h _) {w with drawn:=w.drawn+1} es
 | sys c k ih=>
  intro w es;obtain⟨rfl,hk⟩:=h
  exact ih _ (hk _) (w.sys .env).2 _
 | program k ih=>intro w es;exact ih P h w es
 | mark m k ih=>intro w es;exact ih h.2 w _
end
end Go.Nm
