/- A part of what the last file proves. -/
import Derived.Test.YtgpbhjjajpbeeaaGreatDoorK13
import Derived.Shelf.Strings.Builder1
import Derived.Shelf.Strings.Builder2
import Derived.Shelf.Strings.Trim
import Derived.Shelf.Small.Utf8
import Derived.Shelf.Small.Bits
import Derived.Shelf.Small.Strs
import Derived.Shelf.Small.Wraps
import Derived.Shelf.Strings.BuilderF
import Derived.Shelf.Strings.BuilderK
import Derived.Shelf.Strings.Builder2Cap
import Derived.Shelf.Strconv.Itoa0
import Derived.Shelf.Strconv.Itoa1
import Derived.Shelf.LaysM
import Derived.Shelf.Strconv.Itoa2
import Derived.Shelf.Strconv.Itoa3
import Derived.Shelf.Strings.Search1
import Derived.Shelf.Sort.Plain
import Derived.Shelf.Strings.Prefix
import Derived.Shelf.Unicode.Decode
import Derived.Shelf.Strings.Runes
import Derived.Shelf.Strings.AsciiSet
import Derived.Shelf.Bits.Mul64
import Derived.Shelf.Strings.Repeat
import Derived.Shelf.Unicode.DecodeSlow
import Derived.Shelf.Unicode.DecodeAny
import Derived.Shelf.Unicode.DecodeLast
import Derived.Shelf.Strings.BuilderCap
import Derived.Shelf.Slices.Turned
import Derived.Shelf.Slices.In.SortNone
import Derived.Sort.OwnSorted
set_option linter.all false
set_option maxRecDepth 100000
set_option maxHeartbeats 4000000
namespace Go.Proofs.YtgpbhjjajpbeeaaGreatDoor
section
open Go.RowKit Go.Extern.Stop Go.Stop Go.Extern
theorem c0X(e:Addr)(t:Addr)(old:Value)(w:World)(hg:w.cell? ⟨0,0,none⟩=some (.iface 275 (.agg #[.pointer (some ⟨7,34,none⟩)])))(ht0:w.cell? t=some old)(hf0:w.frozen? t=false):
 Calls Tryz.prog 65 #[.iface 132 (.pointer (some e)),.iface 162 (.pointer (some t))] w fun ev w'=>ev=.returned (.bool true)/\w'=((((w.alloc (.cells #[.pointer (some t)] 162)).alloc (.cells #[.pointer (some ⟨7,162,none⟩),.pointer (some ⟨w.heap.size,0,none⟩),.int .u64 150] 228)).alloc (.cells #[.pointer (some ⟨7,162,none⟩),.pointer (some ⟨w.heap.size,0,none⟩),.int .u64 150] 228)).alloc (.cells #[.pointer (some e)] 132)).setCell t (.pointer (some e)):=by
 have h1:=@run_callFunc_extern Tryz.prog 119 _ (fun args=>ReflectliteValue.unpack (args.getD 0 (.tuple #[]))) Tryz.func119 (by kernel_rfl) (by kernel_rfl) (by kernel_rfl) (by kernel_rfl);have h2:=@run_callFunc_extern Tryz.prog 120 _ (ReflectliteValue.methodAny (ReflectliteValue.valueError "reflectlite.Value.Type" 0) (fun t _ _ _=>ReflectliteType.toType t)) Tryz.func120 (by kernel_rfl) (by kernel_rfl) (by kernel_rfl) (by kernel_rfl);have h3:=@run_callFunc_extern Tryz.prog 121 _ (ReflectliteValue.method (ReflectliteValue.valueError "reflectlite.Value.IsNil" 0) ReflectliteValue.isNil) Tryz.func121 (by kernel_rfl) (by kernel_rfl) (by kernel_rfl) (by kernel_rfl);have h4:=@run_callFunc_extern Tryz.prog 248 _ (ReflectliteType.abiMethod fun t=>do pure (.int .u8 (<-Rtype.kind t))) Tryz.func248 (by kernel_rfl) (by kernel_rfl) (by kernel_rfl) (by kernel_rfl);have h5:=@run_callFunc_extern Tryz.prog 261 _ (ReflectliteType.method ReflectliteType.elem) Tryz.func261 (by kernel_rfl) (by kernel_rfl) (by kernel_rfl) (by kernel_rfl);have h6:=@run_callFunc_extern Tryz.prog 262 _ (ReflectliteType.relation "Implements" ReflectliteType.implements_) Tryz.func262 (by kernel_rfl) (by kernel_rfl) (by kernel_rfl) (by kernel_rfl);have h7:=@run_callFunc_extern Tryz.prog 97 _ ReflectliteType.typeOf Tryz.func97 (by kernel_rfl) (by kernel_rfl) (by kernel_rfl) (by kernel_rfl);have h8:=@run_callFunc_extern Tryz.prog 259 _ (ReflectliteType.relation "AssignableTo" ReflectliteType.assignableTo) Tryz.func259 (by kernel_rfl) (by kernel_rfl) (by kernel_rfl) (by kernel_rfl);have h9:=@run_callFunc_extern Tryz.prog 162 _ (ReflectliteValue.method (ReflectliteValue.valueError "reflectlite.Value.Elem" 0) ReflectliteValue.elem) Tryz.func162 (by kernel_rfl) (by kernel_rfl) (by kernel_rfl) (by kernel_rfl);have h10:=@run_callFunc_extern Tryz.prog 163 _ ReflectliteValue.set Tryz.func163 (by kernel_rfl) (by kernel_rfl) (by kernel_rfl) (by kernel_rfl);have tO:=b8e;have mA:=a0b;have a25:=b0A;have v25:=b5V;have f6:=a9J;have f7:=b8a;have mK:=a4n;have mE:=a4o;have mI:=a0H;have k27:=b8b;have k25:=b8c;have e27:=b8d;have i25:=a4M;have n8:=b48 ⟨w.heap.size,0,none⟩ t ((w.alloc (.cells #[.pointer (some t)] 162)).alloc (.cells #[.pointer (some ⟨7,162,none⟩),.pointer (some ⟨w.heap.size,0,none⟩),.int .u64 150] 228)) (by simp);have hlt:=World.block_lt_of_cell? w _ hg;have hg2:((w.alloc (.cells #[.pointer (some t)] 162)).alloc (.cells #[.pointer (some ⟨7,162,none⟩),.pointer (some ⟨w.heap.size,0,none⟩),.int .u64 150] 228)).cell? ⟨0,0,none⟩=some (.iface 275 (.agg #[.pointer (some ⟨7,34,none⟩)])):=by
  rw[World.cell?_alloc_lt _ _ ⟨0,0,none⟩ (by simp),World.cell?_alloc_lt _ _ ⟨0,0,none⟩ hlt];exact hg
 have htl:=World.block_lt_of_cell? w _ ht0;have el:=c2K ⟨w.heap.size,0,none⟩ t (((w.alloc (.cells #[.pointer (some t)] 162)).alloc (.cells #[.pointer (some ⟨7,162,none⟩),.pointer (some ⟨w.heap.size,0,none⟩),.int .u64 150] 228)).alloc (.cells #[.pointer (some ⟨7,162,none⟩),.pointer (some ⟨w.heap.size,0,none⟩),.int .u64 150] 228)) (by rw[World.cell?_alloc_lt _ _ ⟨w.heap.size,0,none⟩ (by simp;omega)];simp);have st:=c3Y t ⟨w.heap.size+1+1+1,0,none⟩ e old ((((w.alloc (.cells #[.pointer (some t)] 162)).alloc (.cells #[.pointer (some ⟨7,162,none⟩),.pointer (some ⟨w.heap.size,0,none⟩),.int .u64 150] 228)).alloc (.cells #[.pointer (some ⟨7,162,none⟩),.pointer (some ⟨w.heap.size,0,none⟩),.int .u64 150] 228)).alloc (.cells #[.pointer (some e)] 132))
  (by rw[World.cell?_alloc_at _ _ _ _ (by simp)];rfl)
  (by rw[World.cell?_alloc_lt _ _ t (by simp;omega),World.cell?_alloc_lt _ _ t (by simp;omega),World.cell?_alloc_lt _ _ t (by simp;omega),World.cell?_alloc_lt _ _ t htl];exact ht0)
  (by rw[World.frozen?_alloc_old _ _ t (by simp;omega),World.frozen?_alloc_old _ _ t (by simp;omega),World.frozen?_alloc_old _ _ t (by simp;omega),World.frozen?_alloc_old _ _ t (Nat.ne_of_lt htl)];exact hf0)
 go_enter Tryz.func65,Tryz.ntmps65
 go_wp2;refine wp_loop_rounds 1 ?_;rw[rounds_succ];go_wp2;go_ret;exact⟨rfl,rfl⟩
theorem c0Y(n:Int)(t:Addr)(old:Value)(w:World)(hg:w.cell? ⟨0,0,none⟩=some (.iface 275 (.agg #[.pointer (some ⟨7,34,none⟩)])))(ht0:w.cell? t=some old)(hf0:w.frozen? t=false):
 Calls Tryz.prog 65 #[.iface 37 (.int .i64 n),.iface 163 (.pointer (some t))] w fun ev w'=>ev=.returned (.bool true)/\w'=((((w.alloc (.cells #[.pointer (some t)] 163)).alloc (.cells #[.pointer (some ⟨7,163,none⟩),.pointer (some ⟨w.heap.size,0,none⟩),.int .u64 150] 228)).alloc (.cells #[.pointer (some ⟨7,163,none⟩),.pointer (some ⟨w.heap.size,0,none⟩),.int .u64 150] 228)).alloc (.cells #[.int .i64 n] 37)).setCell t (.int .i64 n):=by
 have h1:=@run_callFunc_extern Tryz.prog 119 _ (fun args=>ReflectliteValue.unpack (args.getD 0 (.tuple #[]))) Tryz.func119 (by kernel_rfl) (by kernel_rfl) (by kernel_rfl) (by kernel_rfl);have h2:=@run_callFunc_extern Tryz.prog 120 _ (ReflectliteValue.methodAny (ReflectliteValue.valueError "reflectlite.Value.Type" 0) (fun t _ _ _=>ReflectliteType.toType t)) Tryz.func120 (by kernel_rfl) (by kernel_rfl) (by kernel_rfl) (by kernel_rfl);have h3:=@run_callFunc_extern Tryz.prog 121 _ (ReflectliteValue.method (ReflectliteValue.valueError "reflectlite.Value.IsNil" 0) ReflectliteValue.isNil) Tryz.func121 (by kernel_rfl) (by kernel_rfl) (by kernel_rfl) (by kernel_rfl);have h4:=@run_callFunc_extern Tryz.prog 248 _ (ReflectliteType.abiMethod fun t=>do pure (.int .u8 (<-Rtype.kind t))) Tryz.func248 (by kernel_rfl) (by kernel_rfl) (by kernel_rfl) (by kernel_rfl);have h5:=@run_callFunc_extern Tryz.prog 261 _ (ReflectliteType.method ReflectliteType.elem) Tryz.func261 (by kernel_rfl) (by kernel_rfl) (by kernel_rfl) (by kernel_rfl);have h6:=@run_callFunc_extern Tryz.prog 262 _ (ReflectliteType.relation "Implements" ReflectliteType.implements_) Tryz.func262 (by kernel_rfl) (by kernel_rfl) (by kernel_rfl) (by kernel_rfl);have h7:=@run_callFunc_extern Tryz.prog 97 _ ReflectliteType.typeOf Tryz.func97 (by kernel_rfl) (by kernel_rfl) (by kernel_rfl) (by kernel_rfl);have h8:=@run_callFunc_extern Tryz.prog 259 _ (ReflectliteType.relation "AssignableTo" ReflectliteType.assignableTo) Tryz.func259 (by kernel_rfl) (by kernel_rfl) (by kernel_rfl) (by kernel_rfl);have h9:=@run_callFunc_extern Tryz.prog 162 _ (ReflectliteValue.method (ReflectliteValue.valueError "reflectlite.Value.Elem" 0) ReflectliteValue.elem) Tryz.func162 (by kernel_rfl) (by kernel_rfl) (by kernel_rfl) (by kernel_rfl);have h10:=@run_callFunc_extern Tryz.prog 163 _ ReflectliteValue.set Tryz.func163 (by kernel_rfl) (by kernel_rfl) (by kernel_rfl) (by kernel_rfl);have tO:=a4N;have mA:=a0b;have a25:=b0C;have v25:=b5X;have f6:=b5W;have f7:=c2L;have mK:=a4n;have mE:=a4o;have mI:=a0H;have k27:=c2M;have k25:=c2N;have e27:=c2O;have i25:=b0B;have n8:=c0V ⟨w.heap.size,0,none⟩ t ((w.alloc (.cells #[.pointer (some t)] 163)).alloc (.cells #[.pointer (some ⟨7,163,none⟩),.pointer (some ⟨w.heap.size,0,none⟩),.int .u64 150] 228)) (by simp);have hlt:=World.block_lt_of_cell? w _ hg;have hg2:((w.alloc (.cells #[.pointer (some t)] 163)).alloc (.cells #[.pointer (some ⟨7,163,none⟩),.pointer (some ⟨w.heap.size,0,none⟩),.int .u64 150] 228)).cell? ⟨0,0,none⟩=some (.iface 275 (.agg #[.pointer (some ⟨7,34,none⟩)])):=by
  rw[World.cell?_alloc_lt _ _ ⟨0,0,none⟩ (by simp),World.cell?_alloc_lt _ _ ⟨0,0,none⟩ hlt];exact hg
 have htl:=World.block_lt_of_cell? w _ ht0;have el:=c2P ⟨w.heap.size,0,none⟩ t (((w.alloc (.cells #[.pointer (some t)] 163)).alloc (.cells #[.pointer (some ⟨7,163,none⟩),.pointer (some ⟨w.heap.size,0,none⟩),.int .u64 150] 228)).alloc (.cells #[.pointer (some ⟨7,163,none⟩),.pointer (some ⟨w.heap.size,0,none⟩),.int .u64 150] 228)) (by rw[World.cell?_alloc_lt _ _ ⟨w.heap.size,0,none⟩ (by simp;omega)];simp);have st:=c3Z t ⟨w.heap.size+1+1+1,0,none⟩ n old ((((w.alloc (.cells #[.pointer (some t)] 163)).alloc (.cells #[.pointer (some ⟨7,163,none⟩),.pointer (some ⟨w.heap.size,0,none⟩),.int .u64 150] 228)).alloc (.cells #[.pointer (some ⟨7,163,none⟩),.pointer (some ⟨w.heap.size,0,none⟩),.int .u64 150] 228)).alloc (.cells #[.int .i64 n] 37))
  (by rw[World.cell?_alloc_at _ _ _ _ (by simp)];rfl)
  (by rw[World.cell?_alloc_lt _ _ t (by simp;omega),World.cell?_alloc_lt _ _ t (by simp;omega),World.cell?_alloc_lt _ _ t (by simp;omega),World.cell?_alloc_lt _ _ t htl];exact ht0)
  (by rw[World.frozen?_alloc_old _ _ t (by simp;omega),World.frozen?_alloc_old _ _ t (by simp;omega),World.frozen?_alloc_old _ _ t (by simp;omega),World.frozen?_alloc_old _ _ t (Nat.ne_of_lt htl)];exact hf0)
 go_enter Tryz.func65,Tryz.ntmps65
 go_wp2;refine wp_loop_rounds 1 ?_;rw[rounds_succ];go_wp2;go_ret;exact⟨rfl,rfl⟩
end
section
open Go.RowKit Go.Extern.Stop Go.Stop Go.Extern
theorem c0Z(n:Int)(t:Addr)(w:World)(hg:w.cell? ⟨0,0,none⟩=some (.iface 275 (.agg #[.pointer (some ⟨7,34,none⟩)]))):
 Calls Tryz.prog 65 #[.iface 37 (.int .i64 n),.iface 162 (.pointer (some t))] w fun ev w'=>ev=.returned (.bool false)/\Below w.heap.size w w':=by
 have h1:=@run_callFunc_extern Tryz.prog 119 _ (fun args=>ReflectliteValue.unpack (args.getD 0 (.tuple #[]))) Tryz.func119 (by kernel_rfl) (by kernel_rfl) (by kernel_rfl) (by kernel_rfl);have h2:=@run_callFunc_extern Tryz.prog 120 _ (ReflectliteValue.methodAny (ReflectliteValue.valueError "reflectlite.Value.Type" 0) (fun t _ _ _=>ReflectliteType.toType t)) Tryz.func120 (by kernel_rfl) (by kernel_rfl) (by kernel_rfl) (by kernel_rfl);have h3:=@run_callFunc_extern Tryz.prog 121 _ (ReflectliteValue.method (ReflectliteValue.valueError "reflectlite.Value.IsNil" 0) ReflectliteValue.isNil) Tryz.func121 (by kernel_rfl) (by kernel_rfl) (by kernel_rfl) (by kernel_rfl);have h4:=@run_callFunc_extern Tryz.prog 248 _ (ReflectliteType.abiMethod fun t=>do pure (.int .u8 (<-Rtype.kind t))) Tryz.func248 (by kernel_rfl) (by kernel_rfl) (by kernel_rfl) (by kernel_rfl);have h5:=@run_callFunc_extern Tryz.prog 261 _ (ReflectliteType.method ReflectliteType.elem) Tryz.func261 (by kernel_rfl) (by kernel_rfl) (by kernel_rfl) (by kernel_rfl);have h6:=@run_callFunc_extern Tryz.prog 262 _ (ReflectliteType.relation "Implements" ReflectliteType.implements_) Tryz.func262 (by kernel_rfl) (by kernel_rfl) (by kernel_rfl) (by kernel_rfl);have h7:=@run_callFunc_extern Tryz.prog 97 _ ReflectliteType.typeOf Tryz.func97 (by kernel_rfl) (by kernel_rfl) (by kernel_rfl) (by kernel_rfl);have h8:=@run_callFunc_extern Tryz.prog 259 _ (ReflectliteType.relation "AssignableTo" ReflectliteType.assignableTo) Tryz.func259 (by kernel_rfl) (by kernel_rfl) (by kernel_rfl) (by kernel_rfl);have h9:=@run_callFunc_extern Tryz.prog 162 _ (ReflectliteValue.method (ReflectliteValue.valueError "reflectlite.Value.Elem" 0) ReflectliteValue.elem) Tryz.func162 (by kernel_rfl) (by kernel_rfl) (by kernel_rfl) (by kernel_rfl);have h10:=@run_callFunc_extern Tryz.prog 163 _ ReflectliteValue.set Tryz.func163 (by kernel_rfl) (by kernel_rfl) (by kernel_rfl) (by kernel_rfl);have tO:=a4N;have mA:=a0b;have tA1:=run_typeAssert_lacksB (P:=Tryz.prog) (z:=.nilIface) (t:=37) (asserted:=292) rfl (by kernel_rfl) (by kernel_rfl);have tA2:=run_typeAssert_lacksB (P:=Tryz.prog) (z:=.nilIface) (t:=37) (asserted:=280) rfl (by kernel_rfl) (by kernel_rfl);have tA3:=run_typeAssert_lacksB (P:=Tryz.prog) (z:=.nilIface) (t:=37) (asserted:=281) rfl (by kernel_rfl) (by kernel_rfl);have a25:=b0D;have f6:=a9J;have f7:=b8a;have mK:=a4n;have mE:=a4o;have mI:=a0H;have k27:=b8b;have k25:=b8c;have e27:=b8d;have i25:=a4M;have n8:=b48 ⟨w.heap.size,0,none⟩ t ((w.alloc (.cells #[.pointer (some t)] 162)).alloc (.cells #[.pointer (some ⟨7,162,none⟩),.pointer (some ⟨w.heap.size,0,none⟩),.int .u64 150] 228)) (by simp);have hlt:=World.block_lt_of_cell? w _ hg;have hg2:((w.alloc (.cells #[.pointer (some t)] 162)).alloc (.cells #[.pointer (some ⟨7,162,none⟩),.pointer (some ⟨w.heap.size,0,none⟩),.int .u64 150] 228)).cell? ⟨0,0,none⟩=some (.iface 275 (.agg #[.pointer (some ⟨7,34,none⟩)])):=by
  rw[World.cell?_alloc_lt _ _ ⟨0,0,none⟩ (by simp),World.cell?_alloc_lt _ _ ⟨0,0,none⟩ hlt];exact hg
 go_enter Tryz.func65,Tryz.ntmps65
 go_wp2;refine wp_loop_rounds 1 ?_;rw[rounds_succ];go_wp2;go_ret;exact⟨rfl,(((Ext.refl w).new _).new _).new _⟩
end
section
open Go.RowKit
theorem Ext.trans'{a b c:World}{B:Nat}(h:Ext a b)(k:Below B b c)(hB:a.heap.size<=B:=by first|exact Nat.le_refl _|omega|(have:=Below.size (by assumption);simp at *;omega)):Ext a c:=Below.trans h (k.mono hB)
def Laid(w:World):Prop:=w.cell? ⟨0,0,none⟩=some (.iface 275 (.agg #[.pointer (some ⟨7,34,none⟩)]))
theorem Laid.ext{w w':World}(h:Laid w)(he:Ext w w'):Laid w':=he.cell h
def c2F(t:Addr)(v:Value)(w:World)(e:Ending)(w':World):Prop:=e=.returned (.bool true)/\w'.cell? t=some v/\Below t.block w w'
theorem c0l{t:Addr}{v old:Value}{w w1:World}(ht:w.cell? t=some old)(h:Ext w w1):(w1.setCell t v).cell? t=some v/\Below t.block w (w1.setCell t v):=
 ⟨World.cell?_setCell_same w1 t v (h.cell ht),(h.mono (Nat.le_of_lt (World.block_lt_of_cell? w t ht))).setCell (Nat.le_refl _) _⟩
theorem c0m(n:Int)(t:Addr)(old:Value)(w:World)(h:Laid w)(ht:w.cell? t=some old)(hf:w.frozen? t=false):
 Calls Tryz.prog 65 #[.iface 37 (.int .i64 n),.iface 163 (.pointer (some t))] w (c2F t (.int .i64 n) w):=by
 refine(c0Y n t old w h ht hf).mono ?_;rintro e w' ⟨rfl,rfl⟩;exact⟨rfl,c0l ht ((((Ext.refl w).new _).new _).new _ |>.new _)⟩
theorem c0n(a:Addr)(t:Addr)(old:Value)(w:World)(h:Laid w)(ht:w.cell? t=some old)(hf:w.frozen? t=false):
 Calls Tryz.prog 65 #[.iface 132 (.pointer (some a)),.iface 162 (.pointer (some t))] w (c2F t (.pointer (some a)) w):=by
 refine(c0X a t old w h ht hf).mono ?_;rintro e w' ⟨rfl,rfl⟩;exact⟨rfl,c0l ht ((((Ext.refl w).new _).new _).new _ |>.new _)⟩
theorem c0o(w:World):
 Calls Tryz.prog 15 #[.nilIface] w fun e w'=>e=.returned (.tuple #[.int .i64 0,.string ⟨#[]⟩])/\Ext w w':=by
 go_enter Tryz.func15,Tryz.ntmps15
 go_wp2;go_ret2
 exact⟨rfl,((Ext.refl w).new _).new _⟩
theorem c0p(n:Int)(w:World)(h:Laid w):
 Calls Tryz.prog 15 #[.iface 37 (.int .i64 n)] w fun e w'=>e=.returned (.tuple #[.int .i64 n,.string ⟨#[]⟩])/\Ext w w':=by
 have H:=Lib.hid h;clear h;go_enter Tryz.func15,Tryz.ntmps15
 go_wp2_with fail
 refine(c0Z n _ _ (Laid.ext H.out (((Ext.refl w).new _).new _))).mono ?_;rintro e w1 ⟨rfl,hb1⟩;have hE1:Ext w w1:=(((Ext.refl w).new (.cells #[.int .i64 0] 37)).new (.cells #[.pointer none] 132)).trans hb1;have hc0:w1.cell? ⟨w.heap.size,0,none⟩=some (.int .i64 0):=(Below.cell hb1 (by simp;omega)).trans (by simp);have hf0:w1.frozen? ⟨w.heap.size,0,none⟩=false:=(Below.frozen hb1 (by simp;omega)).trans (by simp);go_wp2_with fail
 refine(c0m n _ (.int .i64 0) _ (Laid.ext H.out hE1) hc0 hf0).mono ?_;rintro e w2 ⟨rfl,hc2,hb2⟩;go_wp2_with fail
 go_ret2
 exact⟨rfl,hE1.trans' hb2⟩
theorem b7D(a:Addr)(name:ByteArray)(n:Int)(w:World)(h:Laid w)(h0:w.cell? a=some (.string name))(h1:w.cell? ⟨a.block,a.off+1,none⟩=some (.int .i64 n)):
 Calls Tryz.prog 15 #[.iface 132 (.pointer (some a))] w fun e w'=>e=.returned (.tuple #[.int .i64 n,.string name])/\Ext w w':=by
 have H:=Lib.hid h;clear h;go_enter Tryz.func15,Tryz.ntmps15
 go_wp2_with fail
 refine(c0n a ⟨w.heap.size+1,0,none⟩ (.pointer none) _ (Laid.ext H.out (((Ext.refl w).new _).new _)) (by simp) (by simp)).mono ?_;rintro e w1 ⟨rfl,hc1,hb1⟩;have hb1':Below (w.heap.size+1) ((w.alloc (.cells #[.int .i64 0] 37)).alloc (.cells #[.pointer none] 132)) w1:=hb1;have hE1:Ext w w1:=Below.trans (((Ext.refl w).new (.cells #[.int .i64 0] 37)).new (.cells #[.pointer none] 132)) (hb1'.mono (by omega));have h01:=hE1.cell h0;have h11:=hE1.cell h1;clear h0 h1;go_wp2;go_quiet (fail)
 go_wp2;go_ret2
 exact⟨rfl,hE1.trans (Ext.drewN _ _)⟩
end
section
open Go.RowKit Go.Lib Go.Maps Dk Pl
theorem b2r(er:Er)(v:Value)(w:World)(h:Y4 w v er)(hl:Laid w):
 Calls Tryz.prog 15 #[v] w fun e w'=>e=.returned (.tuple #[.int .i64 er.code,strV er.name])/\Ext w w':=by
 cases er with
 | ok=>subst h;exact c0o w
 | num n=>subst h;exact c0p n w hl
 | file n nm=>
  obtain⟨b,rfl,hb⟩:=h;exact b7D ⟨b,0,none⟩ ⟨nm.toArray⟩ n w hl ((hb.cell 0).trans rfl) ((hb.cell 1).trans rfl)
theorem b9l(n:Int)(w:World):Calls Tryz.prog 47 #[.int .i64 n] w fun e w'=>∃k:Nat,e=.returned (.int .i64 k)/\1<=k/\k<=999999/\w'=w:=by
 go_enter Tryz.func47,Tryz.ntmps47
 go_wp2;obtain⟨m,hm⟩:∃m,IntKind.u64.wrap (wrap64 (n - 1))=m:=⟨_,rfl⟩;have hm0:0<=m:=by rw[<-hm];exact Int.emod_nonneg _ (by decide)
 have hmod:m.tmod 999999=m%999999:=Int.tmod_eq_emod_of_nonneg hm0;have h1:0<=m%999999:=Int.emod_nonneg _ (by decide);have h2:m%999999<999999:=Int.emod_lt_of_pos _ (by decide);have h3:wrap64 (m%999999)=m%999999:=by unfold wrap64;omega
 have h4:wrap64 (1+m%999999)=((1+(m%999999).toNat:Nat):Int):=by unfold wrap64;omega
 rw[hm,hmod,h3,h4];go_ret;exact⟨_,rfl,by omega,by omega,rfl⟩
def b04(F:Nat->Prop)(a:Nat)(k:Nat)(w:World)(e:Ending)(w':World):Prop:=
 e=.returned (.tuple #[])/\∃F' d,o8 w' F' a d/\d.Built k/\Chg F F' w w'/\∀b,F b->F' b
theorem a4W(F:Nat->Prop)(a:Nat)(d:D)(k:Nat)(name:Nm)(u:Value)(l:List UInt8)(w:World)(h:o8 w F a d)(hb:d.Built k)(hk:k<=32000)(hn:name.length<=1000000)
 (hu:Held w F (fun W=>Bytes W u l))(hl:l.length<=35184372088832)(hL:Held w F Laid):
 Calls Tryz.prog 50 #[l7 a,strV name,u] w (b04 F a (k+1) w):=by
 have hcr:=b3A F a d name w h (by unfold maxLen;omega) (by have:=hb.mlen;omega);obtain⟨ua,uc,rfl,huc,huc',-⟩:=hu.get.open;have HCR:=Lib.hid hcr;have HB:=Lib.hid hb;have HU:=Lib.hid hu;have HL:=Lib.hid hL;clear hcr hb hu hL h;unfold l7 strV at *;go_enter Tryz.func50,Tryz.ntmps50
 go_wp2_with fail
 refine HCR.out.mono ?_;rintro e w1 ⟨x,hx,F1,v1,rfl,hv1,hD1,hC1,hF1⟩;have hb1:=HB.out.create hx hn;have hL1:=HL.out.step hC1;have htell:=b2r _ v1 w1 hv1.get hL1.get;obtain⟨d1,hd1⟩:∃d1,(d.create name x).2=d1:=⟨_,rfl⟩;obtain⟨er,her⟩:∃er,(d.create name x).1=er:=⟨_,rfl⟩;rw[hd1] at hb1 hD1;rw[her] at htell;have HT:=Lib.hid htell;have HB1:=Lib.hid hb1;have HC1:=Lib.hid hC1;have HF1:=Lib.hid hF1;have HD1:=Lib.hid hD1;have HU1:=Lib.hid (HU.out.step hC1);clear htell hb1 hC1 hF1 hv1 hL1 hd1 her hx hD1 HCR HL;unfold strV at HT;go_wp2_with fail
 refine HT.out.mono ?_;rintro e w2 ⟨rfl,hE2⟩;have HE2:=Lib.hid hE2;clear hE2;by_cases hc:er.code=0
 ·have hap:=b3C F1 a d1 name (.slice ua l.length uc) l w2 (HD1.out.ext HE2.out) (HU1.out.ext HE2.out) (by unfold maxLen;omega) hl (fun x hx=>by have:=HB1.out.bound x hx;omega) (by have:=HB1.out.len;omega);have HAP:=Lib.hid hap;clear hap;unfold l7 strV at HAP;go_wp2_with fail
  refine HAP.out.mono ?_;rintro e w3 ⟨F3,v3,rfl,hv3,hD3,hC3,hF3⟩;have hsy:=b8W F3 a _ name w3 hD3 (by unfold maxLen;omega);have HSY:=Lib.hid hsy;have HC3:=Lib.hid hC3;have HF3:=Lib.hid hF3;clear hsy hC3 hF3 hv3 hD3 HAP;unfold l7 strV at HSY;go_wp2_with fail
  refine HSY.out.mono ?_;rintro e w4 ⟨F4,v4,rfl,hv4,hD4,hC4,hF4⟩;have hfin:b04 F a (k+1) w (.returned (.tuple #[])) w4:=⟨rfl,F4,_,hD4,HB1.out.appendSync name l,((HC1.out.trans (Chg.ext HE2.out)).trans HC3.out).trans hC4,fun b hb=>hF4 b (HF3.out b (HF1.out b hb))⟩;have HF:=Lib.hid hfin;clear hfin hD4 hC4 hF4 hv4;go_wp2;go_end0
  exact HF.out
 ·have hfin:b04 F a (k+1) w (.returned (.tuple #[])) w2:=⟨rfl,F1,d1,HD1.out.ext HE2.out,HB1.out,HC1.out.trans (Chg.ext HE2.out),HF1.out⟩;have HF:=Lib.hid hfin;clear hfin;go_wp2;go_end0
  exact HF.out
end
end Go.Proofs.YtgpbhjjajpbeeaaGreatDoor
namespace Go.Proofs
section
open Go.Shelf
def Tryz.laysM246_ren:Go.Shelf.Ren:=⟨fun|246=>174|283=>202|284=>203|285=>204|286=>205|129=>190|317=>218|318=>219|319=>220|320=>221|337=>226|338=>227|n=>n,fun|2=>2|3=>3|9=>9|4=>4|171=>337|0=>0|53=>24|37=>25|5=>5|173=>339|212=>353|51=>147|20=>20|213=>354|46=>56|232=>367|233=>368|n=>n,fun|17=>1|18=>5|19=>6|n=>n⟩
def Tryz.laysM243_ren:Go.Shelf.Ren:=⟨fun|243=>150|246=>174|283=>202|284=>203|285=>204|286=>205|129=>190|317=>218|318=>219|319=>220|320=>221|337=>226|338=>227|n=>n,fun|3=>3|9=>9|2=>2|4=>4|171=>337|0=>0|53=>24|37=>25|5=>5|173=>339|212=>353|51=>147|20=>20|213=>354|46=>56|232=>367|233=>368|n=>n,fun|17=>1|18=>5|19=>6|n=>n⟩
def Tryz.laysM171_ren:Go.Shelf.Ren:=⟨fun|171=>95|243=>150|246=>174|283=>202|284=>203|285=>204|286=>205|129=>190|317=>218|318=>219|319=>220|320=>221|337=>226|338=>227|n=>n,fun|3=>3|9=>9|2=>2|4=>4|171=>337|0=>0|53=>24|37=>25|5=>5|173=>339|212=>353|51=>147|20=>20|213=>354|46=>56|232=>367|233=>368|n=>n,fun|17=>1|18=>5|19=>6|n=>n⟩
theorem Tryz.laysM171:Go.Proofs.LaysM.n171 Tryz.prog Tryz.laysM171_ren:={
 mixed:=by kernel_rfl
 f129:=Tryz.func190.trans (congrArg some (by kernel_rfl))
 f171:=Tryz.func95.trans (congrArg some (by kernel_rfl))
 f243:=Tryz.func150.trans (congrArg some (by kernel_rfl))
 f246:=Tryz.func174.trans (congrArg some (by kernel_rfl))
 f283:=Tryz.func202.trans (congrArg some (by kernel_rfl))
 f284:=Tryz.func203.trans (congrArg some (by kernel_rfl))
 f285:=Tryz.func204.trans (congrArg some (by kernel_rfl))
 f286:=Tryz.func205.trans (congrArg some (by kernel_rfl))
 f317:=Tryz.func218.trans (congrArg some (by kernel_rfl))
 f318:=Tryz.func219.trans (congrArg some (by kernel_rfl))
 f319:=Tryz.func220.trans (congrArg some (by kernel_rfl))
 f320:=Tryz.func221.trans (congrArg some (by kernel_rfl))
 f337:=Tryz.func226.trans (congrArg some (by kernel_rfl))
 f338:=Tryz.func227.trans (congrArg some (by kernel_rfl))
 t0:=Tryz.underlying0
 a0:=Tryz.isAgg0
 z0:=Tryz.sizeOf0
 v0:=Tryz.zeroValue0
 t2:=Tryz.underlying2
 a2:=Tryz.isAgg2
 z2:=Tryz.sizeOf2
 v2:=Tryz.zeroValue2
 t3:=Tryz.underlying3
 a3:=Tryz.isAgg3
 z3:=Tryz.sizeOf3
 v3:=Tryz.zeroValue3
 t4:=Tryz.underlying4
 a4:=Tryz.isAgg4
 z4:=Tryz.sizeOf4
 v4:=Tryz.zeroValue4
 t5:=Tryz.underlying5
 a5:=Tryz.isAgg5
 z5:=Tryz.sizeOf5
 v5:=Tryz.zeroValue5
 t9:=Tryz.underlying9
 a9:=Tryz.isAgg9
 z9:=Tryz.sizeOf9
 v9:=Tryz.zeroValue9
 t20:=Tryz.underlying20
 a20:=Tryz.isAgg20
 z20:=Tryz.sizeOf20
 v20:=Tryz.zeroValue20
 t37:=Tryz.underlying25
 a37:=Tryz.isAgg25
 z37:=Tryz.sizeOf25
 v37:=Tryz.zeroValue25
 t46:=Tryz.underlying56
 a46:=Tryz.isAgg56
 z46:=Tryz.sizeOf56
 v46:=Tryz.zeroValue56
 t51:=Tryz.underlying147
 a51:=Tryz.isAgg147
 z51:=Tryz.sizeOf147
 v51:=Tryz.zeroValue147
 t53:=Tryz.underlying24
 a53:=Tryz.isAgg24
 z53:=Tryz.sizeOf24
 v53:=Tryz.zeroValue24
 t171:=Tryz.underlying337
 a171:=Tryz.isAgg337
 z171:=Tryz.sizeOf337
 v171:=Tryz.zeroValue337
 t173:=Tryz.underlying339
 a173:=Tryz.isAgg339
 z173:=Tryz.sizeOf339
 v173:=Tryz.zeroValue339
 t212:=Tryz.underlying353
 a212:=Tryz.isAgg353
 z212:=Tryz.sizeOf353
 v212:=Tryz.zeroValue353
 t213:=Tryz.underlying354
 a213:=Tryz.isAgg354
 z213:=Tryz.sizeOf354
 t232:=Tryz.underlying367
 a232:=Tryz.isAgg367
 z232:=Tryz.sizeOf367
 v232:=Tryz.zeroValue367
 t233:=Tryz.underlying368
 a233:=Tryz.isAgg368
 z233:=Tryz.sizeOf368
 v233:=Tryz.zeroValue368
 g17:=by kernel_rfl
 g18:=by kernel_rfl
 g19:=by kernel_rfl
 i0:=by kernel_rfl
 i2:=by kernel_rfl
 i3:=by kernel_rfl
 i4:=by kernel_rfl
 i5:=by kernel_rfl
 i9:=by kernel_rfl
 i20:=by kernel_rfl
 i37:=by kernel_rfl
 i46:=by kernel_rfl
 i51:=by kernel_rfl
 i53:=by kernel_rfl
 i171:=by kernel_rfl
 i173:=by kernel_rfl
 i212:=by kernel_rfl
 i232:=by kernel_rfl
 i233:=by kernel_rfl
 m17:=by kernel_rfl
 m18:=by kernel_rfl
 m19:=by kernel_rfl}
open Go.RowKit Go.Sort Go.Lib in
theorem Tryz.strconv_Itoa(n:Int)(h0:-9223372036854775808<=n)(h1:n<=9223372036854775807)(w:World)(htab:Lib.TabIs Tryz.prog w "internal/strconv.uint64pow10" .u64 Lib.pow10Tab):
 Calls Tryz.prog 95 #[.int .i64 n] w fun e w'=>e=.returned (.string ⟨(Lib.itoa n).toArray⟩)/\∃k os,w'=grow (w.drewN k) os:=Any.strconv_Itoa Tryz.laysM171 n h0 h1 w htab
def Tryz.lays190_ren:Go.Shelf.Ren:=⟨fun|190=>123|125=>165|258=>164|128=>189|129=>190|302=>180|303=>181|304=>182|305=>183|306=>184|307=>185|308=>186|309=>187|310=>188|333=>208|329=>209|330=>210|334=>211|335=>212|336=>213|344=>222|n=>n,fun|31=>73|9=>9|3=>3|46=>56|0=>0|51=>147|53=>24|4=>4|183=>321|182=>320|131=>325|5=>5|218=>343|222=>346|228=>356|229=>357|n=>n,fun|n=>n⟩
theorem Tryz.lays190:Go.Proofs.Lays.n190 Tryz.prog Tryz.lays190_ren:={
 mixed:=by kernel_rfl
 f125:=Tryz.func165.trans (congrArg some (by kernel_rfl))
 f128:=Tryz.func189.trans (congrArg some (by kernel_rfl))
 f129:=Tryz.func190.trans (congrArg some (by kernel_rfl))
 f190:=Tryz.func123.trans (congrArg some (by kernel_rfl))
 f258:=Tryz.func164.trans (congrArg some (by kernel_rfl))
 f302:=Tryz.func180.trans (congrArg some (by kernel_rfl))
 f303:=Tryz.func181.trans (congrArg some (by kernel_rfl))
 f304:=Tryz.func182.trans (congrArg some (by kernel_rfl))
 f305:=Tryz.func183.trans (congrArg some (by kernel_rfl))
 f306:=Tryz.func184.trans (congrArg some (by kernel_rfl))
 f307:=Tryz.func185.trans (congrArg some (by kernel_rfl))
 f308:=Tryz.func186.trans (congrArg some (by kernel_rfl))
 f309:=Tryz.func187.trans (congrArg some (by kernel_rfl))
 f310:=Tryz.func188.trans (congrArg some (by kernel_rfl))
 f329:=Tryz.func209.trans (congrArg some (by kernel_rfl))
 f330:=Tryz.func210.trans (congrArg some (by kernel_rfl))
 f333:=Tryz.func208.trans (congrArg some (by kernel_rfl))
 f334:=Tryz.func211.trans (congrArg some (by kernel_rfl))
 f335:=Tryz.func212.trans (congrArg some (by kernel_rfl))
 f336:=Tryz.func213.trans (congrArg some (by kernel_rfl))
 f344:=Tryz.func222.trans (congrArg some (by kernel_rfl))
 t0:=Tryz.underlying0
 a0:=Tryz.isAgg0
 z0:=Tryz.sizeOf0
 v0:=Tryz.zeroValue0
 t3:=Tryz.underlying3
 a3:=Tryz.isAgg3
 z3:=Tryz.sizeOf3
 v3:=Tryz.zeroValue3
 t4:=Tryz.underlying4
 a4:=Tryz.isAgg4
 z4:=Tryz.sizeOf4
 v4:=Tryz.zeroValue4
 t5:=Tryz.underlying5
 a5:=Tryz.isAgg5
 z5:=Tryz.sizeOf5
 v5:=Tryz.zeroValue5
 t9:=Tryz.underlying9
 a9:=Tryz.isAgg9
 z9:=Tryz.sizeOf9
 v9:=Tryz.zeroValue9
 t31:=Tryz.underlying73
 a31:=Tryz.isAgg73
 z31:=Tryz.sizeOf73
 v31:=Tryz.zeroValue73
 t46:=Tryz.underlying56
 a46:=Tryz.isAgg56
 z46:=Tryz.sizeOf56
 v46:=Tryz.zeroValue56
 t51:=Tryz.underlying147
 a51:=Tryz.isAgg147
 z51:=Tryz.sizeOf147
 v51:=Tryz.zeroValue147
 t53:=Tryz.underlying24
 a53:=Tryz.isAgg24
 z53:=Tryz.sizeOf24
 v53:=Tryz.zeroValue24
 t131:=Tryz.underlying325
 a131:=Tryz.isAgg325
 z131:=Tryz.sizeOf325
 v131:=Tryz.zeroValue325
 t182:=Tryz.underlying320
 a182:=Tryz.isAgg320
 z182:=Tryz.sizeOf320
 v182:=Tryz.zeroValue320
 t183:=Tryz.underlying321
 a183:=Tryz.isAgg321
 z183:=Tryz.sizeOf321
 v183:=Tryz.zeroValue321
 t218:=Tryz.underlying343
 a218:=Tryz.isAgg343
 z218:=Tryz.sizeOf343
 v218:=Tryz.zeroValue343
 t222:=Tryz.underlying346
 a222:=Tryz.isAgg346
 z222:=Tryz.sizeOf346
 v222:=Tryz.zeroValue346
 t228:=Tryz.underlying356
 a228:=Tryz.isAgg356
 z228:=Tryz.sizeOf356
 v228:=Tryz.zeroValue356
 t229:=Tryz.underlying357
 a229:=Tryz.isAgg357
 z229:=Tryz.sizeOf357
 v229:=Tryz.zeroValue357}
open Go.Sort Go.RowKit in
theorem Tryz.slices_Sort_string(blk off cap:Nat)(ss:List (List UInt8))(w:World)(hH:Holds encStr w blk off ss.toArray)(hblk:blk<w.heap.size)(hsz:ss.length<4611686018427387904):
 Calls Tryz.prog 123 #[.slice (some ⟨blk,off,none⟩) ss.length cap] w fun e w'=>
  e=.returned (.tuple #[])/\∃n os,w'=grow (putRow encStr (Sort.ahead w n) blk off (ss.mergeSort fun x y=>decide (x<=y)).toArray) os:=Any.slices_Sort_string Tryz.lays190 blk off cap ss w hH hblk hsz
def Tryz.lays105_ren:Go.Shelf.Ren:=⟨fun|105=>96|212=>151|99=>152|165=>153|166=>154|170=>155|169=>156|263=>175|264=>176|206=>177|240=>178|241=>179|276=>206|277=>207|n=>n,fun|9=>9|3=>3|4=>4|20=>20|0=>0|46=>56|109=>267|5=>5|72=>271|76=>165|51=>147|146=>314|53=>24|148=>316|70=>269|37=>25|75=>34|127=>318|164=>209|80=>273|n=>n,fun|n=>n⟩
theorem Tryz.lays105:Go.Proofs.Lays.n105 Tryz.prog Tryz.lays105_ren:={
 mixed:=by kernel_rfl
 f99:=Tryz.func152.trans (congrArg some (by kernel_rfl))
 f105:=Tryz.func96.trans (congrArg some (by kernel_rfl))
 f165:=Tryz.func153.trans (congrArg some (by kernel_rfl))
 f166:=Tryz.func154.trans (congrArg some (by kernel_rfl))
 f169:=Tryz.func156.trans (congrArg some (by kernel_rfl))
 f170:=Tryz.func155.trans (congrArg some (by kernel_rfl))
 f206:=Tryz.func177.trans (congrArg some (by kernel_rfl))
 f212:=Tryz.func151.trans (congrArg some (by kernel_rfl))
 f240:=Tryz.func178.trans (congrArg some (by kernel_rfl))
 f241:=Tryz.func179.trans (congrArg some (by kernel_rfl))
 f263:=Tryz.func175.trans (congrArg some (by kernel_rfl))
 f264:=Tryz.func176.trans (congrArg some (by kernel_rfl))
 f276:=Tryz.func206.trans (congrArg some (by kernel_rfl))
 f277:=Tryz.func207.trans (congrArg some (by kernel_rfl))
 t0:=Tryz.underlying0
 a0:=Tryz.isAgg0
 z0:=Tryz.sizeOf0
 v0:=Tryz.zeroValue0
 t3:=Tryz.underlying3
 a3:=Tryz.isAgg3
 z3:=Tryz.sizeOf3
 v3:=Tryz.zeroValue3
 t4:=Tryz.underlying4
 a4:=Tryz.isAgg4
 z4:=Tryz.sizeOf4
 v4:=Tryz.zeroValue4
 t5:=Tryz.underlying5
 a5:=Tryz.isAgg5
 z5:=Tryz.sizeOf5
 v5:=Tryz.zeroValue5
 t9:=Tryz.underlying9
 a9:=Tryz.isAgg9
 z9:=Tryz.sizeOf9
 v9:=Tryz.zeroValue9
 t20:=Tryz.underlying20
 a20:=Tryz.isAgg20
 z20:=Tryz.sizeOf20
 v20:=Tryz.zeroValue20
 t37:=Tryz.underlying25
 a37:=Tryz.isAgg25
 z37:=Tryz.sizeOf25
 v37:=Tryz.zeroValue25
 t46:=Tryz.underlying56
 a46:=Tryz.isAgg56
 z46:=Tryz.sizeOf56
 v46:=Tryz.zeroValue56
 t51:=Tryz.underlying147
 a51:=Tryz.isAgg147
 z51:=Tryz.sizeOf147
 v51:=Tryz.zeroValue147
 t53:=Tryz.underlying24
 a53:=Tryz.isAgg24
 z53:=Tryz.sizeOf24
 v53:=Tryz.zeroValue24
 t70:=Tryz.underlying269
 a70:=Tryz.isAgg269
 z70:=Tryz.sizeOf269
 v70:=Tryz.zeroValue269
 t72:=Tryz.underlying271
 a72:=Tryz.isAgg271
 z72:=Tryz.sizeOf271
 v72:=Tryz.zeroValue271
 t75:=Tryz.underlying34
 a75:=Tryz.isAgg34
 z75:=Tryz.sizeOf34
 v75:=Tryz.zeroValue34
 t76:=Tryz.underlying165
 a76:=Tryz.isAgg165
 z76:=Tryz.sizeOf165
 v76:=Tryz.zeroValue165
 t109:=Tryz.underlying267
 a109:=Tryz.isAgg267
 z109:=Tryz.sizeOf267
 v109:=Tryz.zeroValue267
 t127:=Tryz.underlying318
 a127:=Tryz.isAgg318
 z127:=Tryz.sizeOf318
 v127:=Tryz.zeroValue318
 t146:=Tryz.underlying314
 a146:=Tryz.isAgg314
 z146:=Tryz.sizeOf314
 v146:=Tryz.zeroValue314
 t148:=Tryz.underlying316
 a148:=Tryz.isAgg316
 z148:=Tryz.sizeOf316
 v148:=Tryz.zeroValue316
 t164:=Tryz.underlying209
 a164:=Tryz.isAgg209
 z164:=Tryz.sizeOf209
 v164:=Tryz.zeroValue209}
theorem Tryz.Builder_Extra_105:Builder.Extra Tryz.prog Tryz.lays105_ren:={
 sizeBuilder:=by kernel_rfl
 liesBuilder:=by kernel_rfl
 t5:=Tryz.underlying5
 a5:=Tryz.isAgg5
 z5:=Tryz.sizeOf5
 v5:=Tryz.zeroValue5
 infoByte:=by kernel_rfl
 cellsByte:=by kernel_rfl
 sizeByte:=by kernel_rfl
 neB5:=by decide}
open Go.RowKit Go.Lib in
theorem Tryz.strings_Repeat(s:ByteArray)(c:Nat)(w:World)(hc:c<=9223372036854775807)(hlen:s.size*c<=140737488355328):
 Calls Tryz.prog 96 #[.string s,.int .i64 c] w fun e w'=>e=.returned (.string ⟨(Lib.repeatL s.data.toList c).toArray⟩)/\Below w.heap.size w w':=Any.strings_Repeat Tryz.lays105 Tryz.Builder_Extra_105 s c w hc hlen
open Go.RowKit Go.Sort in
theorem Tryz.slices_Sort_string_none(p:Option Addr)(cap:Nat)(w:World):
 Calls Tryz.prog 123 #[.slice p 0 cap] w fun e w'=>e=.returned (.tuple #[])/\w'=w:=Any.slices_Sort_string_none Tryz.lays190 p cap w
end
end Go.Proofs
namespace Go.Proofs.YtgpbhjjajpbeeaaGreatDoor
section
open Go.RowKit Go.Lib Go.Maps Dk
def b2f(w:World)(B:Nat)(v:Value)(l:List Nm):Prop:=w.ownsRow B 9 1 v l.length (l.map strV)
def c3h(d:D)(w:World)(e:Ending)(w':World):Prop:=∃v,e=.returned v/\b2f w' w.heap.size v d.list/\Ext w w'
theorem b8R:(Tryz.prog.info? 9).map (fun i=>(i.zero,i.size,i.bytes))=some (some (.string ⟨#[]⟩),1,16):=by kernel_rfl
theorem a6u{α β:Type}{P:Program}{k:TypeId}{kf:α->Value}{vf:β->Value}{w:World}{r i:Nat}{l vis:List (α×β)}{e:TypeId}{size B:Nat}{v:Value}{n:Nat}{xs:List Value}
 (h:w.ownsRow B e size v n xs)(hr:K4 P k kf vf w i r l vis):v.ownBlock≠some i:=by
 intro hv;obtain⟨es,clock,seen,js,h1,h2,_⟩:=hr;rcases h.2 with⟨rfl,_⟩|⟨g,cap,cur,rfl,hg,hh,_⟩
 ·cases hv
 ·simp[Value.ownBlock] at hv;subst hv;rw[h2] at hh;cases hh
theorem b8S(F:Nat->Prop)(a:Nat)(d:D)(w:World)(h:o8 w F a d)(hnl:d.now.length<=32768):Calls Tryz.prog 66 #[l7 a] w (c3h d w):=by
 obtain⟨m1,m2,mv,gs,dv,hr⟩:=h;obtain⟨i0,hi,hz0,hz1,hz2⟩:=info_parts b8R;have c0:=hr.box.cell 0;obtain⟨w2,hrange,hRA,hExt,hsz2⟩:=hr.now.range Tryz.underlying171;have HR:=Lib.hid hr;have HRA:=Lib.hid hRA;have HEX:=Lib.hid hExt;clear hr hRA hExt;unfold l7;go_enter Tryz.func66,Tryz.ntmps66
 go_wp2;go_loopw [3] (fun i wr=>∃vis,K4 Tryz.prog 9 strV l7 wr w.heap.size m1 d.now vis/\wr.ownsRow w.heap.size 9 1 i vis.length (vis.map fun p=>strV p.1)/\Ext w wr) (fun _ wr=>d.now.length - b1s wr w.heap.size)
 case atStart=>exact⟨[],HRA.out,⟨rfl,Or.inl ⟨rfl,rfl⟩⟩,HEX.out⟩
 case round=>
  obtain⟨vis,hRA,hown,hEx⟩:=hrel;have hvl:=hRA.length;have hseen:=hRA.seen;obtain⟨va,vc,rfl⟩:=ownsRow_form hown;rcases hRA.next 0 with⟨p,w3,hnx,hpm,hRA3,hO3,hent,hvlt⟩|⟨hnx,hperm⟩
  ·have hne:=a6u hown hRA;have hown3:w3.ownsRow w.heap.size 9 1 (.slice va vis.length vc) vis.length (vis.map fun p=>strV p.1):=Dep.row hown w3 fun b hb=>hO3.block b (fun e=>hne (e▸hb));have hne3:=a6u hown3 hRA3;have hEx3:Ext w w3:=hEx.off hO3 (Nat.le_refl _);have hl3:=hRA3.lt;have hm1:(Value.slice va vis.length vc).ownBlock≠some m1:=K5 hown3 ((HR.out.ext hEx3).now);have hseen3:=hRA3.seen;have HH:=Lib.hid hRA3;have HSN:=Lib.hid hseen;have HSN3:=Lib.hid hseen3;have HE3:=Lib.hid hEx3;have HN3:=Lib.hid hne3;have HL3:=Lib.hid hl3;have HM1:=Lib.hid hm1;clear hRA3 hseen hseen3 hRA hO3 hEx3 hne hne3 hl3 hown hm1 hEx;unfold strV l7 at hnx hent;go_wp2_with (at_builtin;go_must (refine p8 rfl _ _ 73 rfl w.heap.size 9 i0 (.string ⟨#[]⟩) 1 16 Tryz.underlying73 hi hz0 hz1 hz2 rfl (by omega) (.slice va vis.length vc) vis.length _ rfl (hown3.alloc (.cells #[strV p.1] 9)) (.slice (some ⟨w3.heap.size,0,none⟩) 1 1) 1 [strV p.1] rfl ⟨_,_,rfl,by omega,⟨by omega,fun h=>by cases h⟩,fun _=>⟨_,rfl,World.news_of_block (cs:=#[strV p.1]) (t:=9) (fr:=(0,0)) (heap_alloc_new w3 _)⟩⟩ rfl (by simp[Value.oneCell',strV]) (by unfold maxLen;omega) (by omega) (by have:=HE3.out.size;simp;omega) ?_);intro b6 c6 w6 hown6 hgrow6 hat6;have HO6:=Lib.hid hown6;have HG6:=Lib.hid hgrow6;clear hown6 hgrow6 hat6)
   go_roundw
   case rel=>
    have hR6:K4 Tryz.prog 9 strV l7 w6 w.heap.size m1 d.now (vis++[p]):=HH.out.block
     ((HG6.out.block _ (by simp;have:=HL3.out.1;omega) (fun e=>HN3.out e.symm)).trans (heap_alloc_old w3 _ HL3.out.1))
     ((HG6.out.block _ (by simp;have:=HL3.out.2.1;omega) (fun e=>HM1.out e.symm)).trans (heap_alloc_old w3 _ HL3.out.2.1))
    refine⟨vis++[p],hR6,?_,?_⟩
    ·have:=HO6.out;simpa using this
    ·exact Below.grown (HE3.out.new (.cells #[strV p.1] 9)) HG6.out (by have:=HE3.out.size;simp;omega) (fun k hk=>(hown3.lt k hk).1)
   case measure=>
    have hR6:K4 Tryz.prog 9 strV l7 w6 w.heap.size m1 d.now (vis++[p]):=HH.out.block
     ((HG6.out.block _ (by simp;have:=HL3.out.1;omega) (fun e=>HN3.out e.symm)).trans (heap_alloc_old w3 _ HL3.out.1))
     ((HG6.out.block _ (by simp;have:=HL3.out.2.1;omega) (fun e=>HM1.out e.symm)).trans (heap_alloc_old w3 _ HL3.out.2.1))
    rw[HSN.out,hR6.seen];simp;omega
  ·have hvm:(vis.map fun p=>strV p.1)=(vis.map Prod.fst).map strV:=by simp
   have hls:(vis.map Prod.fst).mergeSort leN=d.list:=b6l (hperm.map _);have hlen:d.list.length=vis.length:=by rw[<-hls];simp
   rw[hvm] at hown;have ho:=hown;rcases hown.2 with⟨hnil,h0⟩|⟨g,cap,cur,hgv,hbase,hb,h1,h2,h3,h4⟩
   ·have hs:=Tryz.slices_Sort_string_none va vc wr;have HS:=Lib.hid hs;rw[h0] at ho;have hd:d.list=[]:=List.eq_nil_of_length_eq_zero (by omega);clear hs hrange hRA hperm hown hseen hvm;go_wp2_with fail
    refine HS.out.mono ?_;rintro e w4 ⟨rfl,rfl⟩;go_wp2;go_ret;refine⟨.slice va 0 vc,rfl,?_,hEx⟩;have hv0:vis=[]:=List.eq_nil_of_length_eq_zero h0;subst hv0;rw[hd];exact ho
   ·injection hgv with e1 e2 e3;subst e1;subst e3;have hlm:(vis.map Prod.fst).length=vis.length:=by simp
    have hH:Go.Sort.Holds encStr wr g 0 (vis.map Prod.fst).toArray:=holds_of_block hb (by rw[hlm,<-Nat.mul_one vis.length];exact h4);have hs:=Tryz.slices_Sort_string g 0 vc (vis.map Prod.fst) wr hH (Array.getElem?_eq_some_iff.1 hb).1 (by rw[hlm];omega);rw[hlm] at hs;have HS:=Lib.hid hs;have HBK:=Lib.hid hb;have H3:=Lib.hid h3;clear hs hrange hRA hperm hown hseen hvm hH hb h4 h3;go_wp2_with fail
    refine HS.out.mono ?_;rintro e w4 ⟨rfl,n,os,hw4⟩;have HW4:=Lib.hid hw4;clear hw4;go_wp2;go_ret;refine⟨.slice (some ⟨g,0,none⟩) vis.length vc,rfl,?_,?_⟩
    ·have:=ownsRow_sorted (n:=n) (os:=os) (ss:=vis.map Prod.fst) (ts:=d.list) (by rw[hlen,hlm]) hbase HBK.out (by rw[hlm];exact h1) h2 H3.out;rw[<-hls] at this;rw[HW4.out];unfold b2f;rw[hlen,<-hls];rw[hlm] at this;exact this
    ·rw[HW4.out];exact Below.grown hEx (grownBy_sorted _) hEx.size (fun k hk=>by injection hk with hk;omega)
end
section
open Go.RowKit Go.Lib Pl
theorem M8(v:Value)(l:List UInt8)(w:World)(h:Bytes w v l)(hl:l.length<=8):
 Calls Tryz.prog 75 #[v] w fun e w'=>e=.returned (.int .u64 (num l))/\w=w':=by
 obtain⟨a,cap,rfl,hc,hc',hcell⟩:=h.open;go_enter Tryz.func75,Tryz.ntmps75
 go_wp2;go_loop [3,4] (fun c i=>∃k:Nat,k<=l.length/\i=.int .i64 k/\c=.int .u64 (num (l.take k))) (fun _ i=>l.length - (intOf i).toNat)
 case atStart=>exact⟨0,Nat.zero_le _,rfl,rfl⟩
 case round=>
  obtain⟨k,hk,rfl,rfl⟩:=hrel;by_cases hlt:k<l.length
  ·obtain⟨b,rfl,hb⟩:=hcell k hlt;have hs:Hid (num (l.take (k+1))=num (l.take k)*256+l[k].toNat):=by
    have e:num (l.take (k+1))=num (l.take k)*256+l[k].toNat:=by rw[L8 l k hlt,a8A]
    exact e
   have hC:num (l.take k)<256^7:=Nat.lt_of_lt_of_le (b1l _) (Nat.pow_le_pow_right (by omega) (by rw[List.length_take];omega));clear hcell;generalize num (l.take k)=C at *;have hx:=b0e l[k];generalize l[k]=x at *;have hC':C<72057594037927936:=hC;clear hC;go_wp2;go_round
   case rel=>
    refine⟨k+1,by omega,by go_num,?_⟩;rw[hs.out];go_num
   case measure=>simp[intOf];omega
  ·go_wp2;go_ret;obtain rfl:k=l.length:=by omega
   exact⟨by rw[List.take_length];rfl,rfl⟩
theorem O5(v:Value)(B:Nat)(l:List UInt8)(n k:Nat)(w:World)(h:J8 w B v l)(hk:k<=8)(hl:l.length<=1000000)(hB:B<=w.heap.size):
 Calls Tryz.prog 89 #[v,.int .u64 n,.int .i64 k] w (c3Q B (l++be n k) w):=by
 obtain⟨i0,hi,hz0,hz1,hz2⟩:=info_parts a3N;have hk0:IntKind.i64.wrap ((k:Int) - 1)=(k:Int) - 1:=IntWalk.i64_in _ (by omega);go_enter Tryz.func89,Tryz.ntmps89
 go_wp2;go_loopw [0,7] (fun u c wr=>∃j:Nat,j<=k/\c=.int .i64 ((j:Int) - 1)/\(∃l',l'++be n j=l++be n k/\J8 wr B u l')/\Below B w wr) (fun _ c _=>(intOf c+1).toNat)
 case atStart=>exact⟨k,Nat.le_refl _,rfl,⟨l,rfl,h⟩,Below.refl _ _⟩
 case round=>
  obtain⟨j,hj,rfl,⟨l',hl',hown⟩,hb⟩:=hrel;by_cases hj0:0<j
  ·obtain⟨j,rfl⟩:∃i,j=i+1:=⟨j - 1,by omega⟩;rw[show((j+1:Nat):Int) - 1=(j:Int) from by omega];have hw1:IntKind.i64.wrap (8*(j:Int))=8*(j:Int):=IntWalk.i64_in _ (by omega);have hw2:(0:Int)<=8*(j:Int):=by omega
   have hlen:l'.length<=1000008:=by
    have:=congrArg List.length hl';simp only[List.length_append,D9] at this;omega
   have hsz:=hb.size;go_wp2_with (at_builtin;go_must (refine wpList_append_lies _ rfl _ _ _ rfl B 5 i0 _ 1 1 Tryz.underlying25 hi hz0 hz1 hz2 rfl (by omega) _ l'.length (l'.map byteV) rfl (hown.alloc _) ⟨wr.heap.size,0,none⟩ 1 1 [_] rfl rfl (World.news_of_block (cs:=#[_]) (t:=5) (fr:=(0,0)) (heap_alloc_new wr _)) (by simp[Value.oneCell']) (by omega) (by unfold maxLen;omega) (by omega) (by simp;omega) (wr.heap.size+1) (by simp) ?_);intro gg cap w1 hown1 hgrow hat hlt1)
   go_roundw
   case rel=>
    refine⟨j,by omega,rfl,⟨l'++[UInt8.ofNat (n/256^j)],by rw[List.append_assoc];exact hl',?_⟩,?_⟩
    ·rw[b95] at hown1;unfold J8;rw[List.length_append,List.map_append];exact hown1
    ·exact(hb.alloc (by omega) _).grown hgrow (by simp;omega) (fun k hk=>(hown.lt k hk).1)
   case measure=>simp[intOf]
  ·obtain rfl:j=0:=by omega
   go_wp2;go_ret;simp only[be,List.append_nil] at hl';subst hl';exact⟨_,rfl,hown,hb⟩
end
end Go.Proofs.YtgpbhjjajpbeeaaGreatDoor
