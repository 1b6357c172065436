/- A part of what the last file proves. -/
import Derived.Test.YtgpbhjjajpbeeaaGreatDoorO09
import Derived.BigQuiet
import Derived.Deep.QuietTactic
import Derived.Deep.RegionHeld3
import Derived.Deep.AppendLies
import Derived.Deep.RegionLaw
import Derived.Maps.Keyed
import Derived.Laws.IdiomRangeMap
set_option linter.all false
set_option maxRecDepth 100000
set_option maxHeartbeats 4000000
open Go.Proofs.Tryz
namespace Go.Proofs.YtgpbhjjajpbeeaaGreatDoor
section
open Go.RowKit Go.Extern.Stop Go.Stop Go.Extern
theorem c2X(e:Addr)(t:Addr)(old:Value)(w:World)(hg:w.cell? ⟨0,0,none⟩=some (.iface 275 (.agg #[.pointer (some ⟨7,34,none⟩)])))(ht0:w.cell? t=some old)(hf0:w.frozen? t=false):
 Calls prog 65 #[.iface 132 (.pointer (some e)),.iface 162 (.pointer (some t))] w λev w'=>ev=.returned (.bool true)/\w'=((((w.alloc (.cells #[.pointer (some t)] 162)).alloc (.cells #[.pointer (some ⟨7,162,none⟩),.pointer (some ⟨w.heap.size,0,none⟩),.int .u64 150] 228)).alloc (.cells #[.pointer (some ⟨7,162,none⟩),.pointer (some ⟨w.heap.size,0,none⟩),.int .u64 150] 228)).alloc (.cells #[.pointer (some e)] 132)).setCell t (.pointer (some e)):=by
 have h1:=@run_callFunc_extern prog 119 _ (λargs=>ReflectliteValue.unpack (args.getD 0 (.tuple #[]))) func119 (by kernel_rfl) (by kernel_rfl) (by kernel_rfl) (by kernel_rfl);have h2:=@run_callFunc_extern prog 120 _ (ReflectliteValue.methodAny (ReflectliteValue.valueError "reflectlite.Value.Type" 0) (λt _ _ _=>ReflectliteType.toType t)) func120 (by kernel_rfl) (by kernel_rfl) (by kernel_rfl) (by kernel_rfl);have h3:=@run_callFunc_extern prog 121 _ (ReflectliteValue.method (ReflectliteValue.valueError "reflectlite.Value.IsNil" 0) ReflectliteValue.isNil) func121 (by kernel_rfl) (by kernel_rfl) (by kernel_rfl) (by kernel_rfl);have h4:=@run_callFunc_extern prog 248 _ (ReflectliteType.abiMethod λt=>do pure (.int .u8 (<-Rtype.kind t))) func248 (by kernel_rfl) (by kernel_rfl) (by kernel_rfl) (by kernel_rfl);have h5:=@run_callFunc_extern prog 261 _ (ReflectliteType.method ReflectliteType.elem) func261 (by kernel_rfl) (by kernel_rfl) (by kernel_rfl) (by kernel_rfl);have h6:=@run_callFunc_extern prog 262 _ (ReflectliteType.relation "Implements" ReflectliteType.implements_) func262 (by kernel_rfl) (by kernel_rfl) (by kernel_rfl) (by kernel_rfl);have h7:=@run_callFunc_extern prog 97 _ ReflectliteType.typeOf func97 (by kernel_rfl) (by kernel_rfl) (by kernel_rfl) (by kernel_rfl);have h8:=@run_callFunc_extern prog 259 _ (ReflectliteType.relation "AssignableTo" ReflectliteType.assignableTo) func259 (by kernel_rfl) (by kernel_rfl) (by kernel_rfl) (by kernel_rfl);have h9:=@run_callFunc_extern prog 162 _ (ReflectliteValue.method (ReflectliteValue.valueError "reflectlite.Value.Elem" 0) ReflectliteValue.elem) func162 (by kernel_rfl) (by kernel_rfl) (by kernel_rfl) (by kernel_rfl);have h10:=@run_callFunc_extern prog 163 _ ReflectliteValue.set func163 (by kernel_rfl) (by kernel_rfl) (by kernel_rfl) (by kernel_rfl);have tO:=b9z;have mA:=methodAssignableTo;have a25:=b1P;have v25:=b7f;have f6:=Ly;have f7:=vo;have mK:=methodKind;have mE:=methodElem;have mI:=methodImplements;have k27:=vn;have k25:=vm;have e27:=vj;have i25:=an;have n8:=wj ⟨w.heap.size,0,none⟩ t ((w.alloc (.cells #[.pointer (some t)] 162)).alloc (.cells #[.pointer (some ⟨7,162,none⟩),.pointer (some ⟨w.heap.size,0,none⟩),.int .u64 150] 228)) (by simp);have hlt:=World.block_lt_of_cell? w _ hg;have hg2:((w.alloc (.cells #[.pointer (some t)] 162)).alloc (.cells #[.pointer (some ⟨7,162,none⟩),.pointer (some ⟨w.heap.size,0,none⟩),.int .u64 150] 228)).cell? ⟨0,0,none⟩=some (.iface 275 (.agg #[.pointer (some ⟨7,34,none⟩)])):=by
  rw[World.cell?_alloc_lt _ _ ⟨0,0,none⟩ (by simp),World.cell?_alloc_lt _ _ ⟨0,0,none⟩ hlt];exact hg
 have htl:=World.block_lt_of_cell? w _ ht0;have el:=R1 ⟨w.heap.size,0,none⟩ t (((w.alloc (.cells #[.pointer (some t)] 162)).alloc (.cells #[.pointer (some ⟨7,162,none⟩),.pointer (some ⟨w.heap.size,0,none⟩),.int .u64 150] 228)).alloc (.cells #[.pointer (some ⟨7,162,none⟩),.pointer (some ⟨w.heap.size,0,none⟩),.int .u64 150] 228)) (by rw[World.cell?_alloc_lt _ _ ⟨w.heap.size,0,none⟩ (by simp;omega)];simp);have st:=F_ t ⟨w.heap.size+1+1+1,0,none⟩ e old ((((w.alloc (.cells #[.pointer (some t)] 162)).alloc (.cells #[.pointer (some ⟨7,162,none⟩),.pointer (some ⟨w.heap.size,0,none⟩),.int .u64 150] 228)).alloc (.cells #[.pointer (some ⟨7,162,none⟩),.pointer (some ⟨w.heap.size,0,none⟩),.int .u64 150] 228)).alloc (.cells #[.pointer (some e)] 132))
  (by rw[World.cell?_alloc_at _ _ _ _ (by simp)];rfl)
  (by rw[World.cell?_alloc_lt _ _ t (by simp;omega),World.cell?_alloc_lt _ _ t (by simp;omega),World.cell?_alloc_lt _ _ t (by simp;omega),World.cell?_alloc_lt _ _ t htl];exact ht0)
  (by rw[World.frozen?_alloc_old _ _ t (by simp;omega),World.frozen?_alloc_old _ _ t (by simp;omega),World.frozen?_alloc_old _ _ t (by simp;omega),World.frozen?_alloc_old _ _ t (Nat.ne_of_lt htl)];exact hf0)
 go_enter func65,ntmps65
 go_wp2;refine wp_loop_rounds 1 ?_;rw[rounds_succ];go_wp2;go_ret;exact⟨rfl,rfl⟩
theorem c2Y(n:Int)(t:Addr)(old:Value)(w:World)(hg:w.cell? ⟨0,0,none⟩=some (.iface 275 (.agg #[.pointer (some ⟨7,34,none⟩)])))(ht0:w.cell? t=some old)(hf0:w.frozen? t=false):
 Calls prog 65 #[.iface 37 (.int .i64 n),.iface 163 (.pointer (some t))] w λev w'=>ev=.returned (.bool true)/\w'=((((w.alloc (.cells #[.pointer (some t)] 163)).alloc (.cells #[.pointer (some ⟨7,163,none⟩),.pointer (some ⟨w.heap.size,0,none⟩),.int .u64 150] 228)).alloc (.cells #[.pointer (some ⟨7,163,none⟩),.pointer (some ⟨w.heap.size,0,none⟩),.int .u64 150] 228)).alloc (.cells #[.int .i64 n] 37)).setCell t (.int .i64 n):=by
 have h1:=@run_callFunc_extern prog 119 _ (λargs=>ReflectliteValue.unpack (args.getD 0 (.tuple #[]))) func119 (by kernel_rfl) (by kernel_rfl) (by kernel_rfl) (by kernel_rfl);have h2:=@run_callFunc_extern prog 120 _ (ReflectliteValue.methodAny (ReflectliteValue.valueError "reflectlite.Value.Type" 0) (λt _ _ _=>ReflectliteType.toType t)) func120 (by kernel_rfl) (by kernel_rfl) (by kernel_rfl) (by kernel_rfl);have h3:=@run_callFunc_extern prog 121 _ (ReflectliteValue.method (ReflectliteValue.valueError "reflectlite.Value.IsNil" 0) ReflectliteValue.isNil) func121 (by kernel_rfl) (by kernel_rfl) (by kernel_rfl) (by kernel_rfl);have h4:=@run_callFunc_extern prog 248 _ (ReflectliteType.abiMethod λt=>do pure (.int .u8 (<-Rtype.kind t))) func248 (by kernel_rfl) (by kernel_rfl) (by kernel_rfl) (by kernel_rfl);have h5:=@run_callFunc_extern prog 261 _ (ReflectliteType.method ReflectliteType.elem) func261 (by kernel_rfl) (by kernel_rfl) (by kernel_rfl) (by kernel_rfl);have h6:=@run_callFunc_extern prog 262 _ (ReflectliteType.relation "Implements" ReflectliteType.implements_) func262 (by kernel_rfl) (by kernel_rfl) (by kernel_rfl) (by kernel_rfl);have h7:=@run_callFunc_extern prog 97 _ ReflectliteType.typeOf func97 (by kernel_rfl) (by kernel_rfl) (by kernel_rfl) (by kernel_rfl);have h8:=@run_callFunc_extern prog 259 _ (ReflectliteType.relation "AssignableTo" ReflectliteType.assignableTo) func259 (by kernel_rfl) (by kernel_rfl) (by kernel_rfl) (by kernel_rfl);have h9:=@run_callFunc_extern prog 162 _ (ReflectliteValue.method (ReflectliteValue.valueError "reflectlite.Value.Elem" 0) ReflectliteValue.elem) func162 (by kernel_rfl) (by kernel_rfl) (by kernel_rfl) (by kernel_rfl);have h10:=@run_callFunc_extern prog 163 _ ReflectliteValue.set func163 (by kernel_rfl) (by kernel_rfl) (by kernel_rfl) (by kernel_rfl);have tO:=Uk;have mA:=methodAssignableTo;have a25:=b1R;have v25:=b7h;have f6:=b7g;have f7:=Re;have mK:=methodKind;have mE:=methodElem;have mI:=methodImplements;have k27:=QR;have k25:=QQ;have e27:=QP;have i25:=b1Q;have n8:=c2V ⟨w.heap.size,0,none⟩ t ((w.alloc (.cells #[.pointer (some t)] 163)).alloc (.cells #[.pointer (some ⟨7,163,none⟩),.pointer (some ⟨w.heap.size,0,none⟩),.int .u64 150] 228)) (by simp);have hlt:=World.block_lt_of_cell? w _ hg;have hg2:((w.alloc (.cells #[.pointer (some t)] 163)).alloc (.cells #[.pointer (some ⟨7,163,none⟩),.pointer (some ⟨w.heap.size,0,none⟩),.int .u64 150] 228)).cell? ⟨0,0,none⟩=some (.iface 275 (.agg #[.pointer (some ⟨7,34,none⟩)])):=by
  rw[World.cell?_alloc_lt _ _ ⟨0,0,none⟩ (by simp),World.cell?_alloc_lt _ _ ⟨0,0,none⟩ hlt];exact hg
 have htl:=World.block_lt_of_cell? w _ ht0;have el:=P' ⟨w.heap.size,0,none⟩ t (((w.alloc (.cells #[.pointer (some t)] 163)).alloc (.cells #[.pointer (some ⟨7,163,none⟩),.pointer (some ⟨w.heap.size,0,none⟩),.int .u64 150] 228)).alloc (.cells #[.pointer (some ⟨7,163,none⟩),.pointer (some ⟨w.heap.size,0,none⟩),.int .u64 150] 228)) (by rw[World.cell?_alloc_lt _ _ ⟨w.heap.size,0,none⟩ (by simp;omega)];simp);have st:=FS9 t ⟨w.heap.size+1+1+1,0,none⟩ n old ((((w.alloc (.cells #[.pointer (some t)] 163)).alloc (.cells #[.pointer (some ⟨7,163,none⟩),.pointer (some ⟨w.heap.size,0,none⟩),.int .u64 150] 228)).alloc (.cells #[.pointer (some ⟨7,163,none⟩),.pointer (some ⟨w.heap.size,0,none⟩),.int .u64 150] 228)).alloc (.cells #[.int .i64 n] 37))
  (by rw[World.cell?_alloc_at _ _ _ _ (by simp)];rfl)
  (by rw[World.cell?_alloc_lt _ _ t (by simp;omega),World.cell?_alloc_lt _ _ t (by simp;omega),World.cell?_alloc_lt _ _ t (by simp;omega),World.cell?_alloc_lt _ _ t htl];exact ht0)
  (by rw[World.frozen?_alloc_old _ _ t (by simp;omega),World.frozen?_alloc_old _ _ t (by simp;omega),World.frozen?_alloc_old _ _ t (by simp;omega),World.frozen?_alloc_old _ _ t (Nat.ne_of_lt htl)];exact hf0)
 go_enter func65,ntmps65
 go_wp2;refine wp_loop_rounds 1 ?_;rw[rounds_succ];go_wp2;go_ret;exact⟨rfl,rfl⟩
end
section
open Go.RowKit Go.Extern.Stop Go.Stop Go.Extern
theorem c2Z(n:Int)(t:Addr)(w:World)(hg:w.cell? ⟨0,0,none⟩=some (.iface 275 (.agg #[.pointer (some ⟨7,34,none⟩)]))):
 Calls prog 65 #[.iface 37 (.int .i64 n),.iface 162 (.pointer (some t))] w λev w'=>ev=.returned (.bool false)/\Below w.heap.size w w':=by
 have h1:=@run_callFunc_extern prog 119 _ (λargs=>ReflectliteValue.unpack (args.getD 0 (.tuple #[]))) func119 (by kernel_rfl) (by kernel_rfl) (by kernel_rfl) (by kernel_rfl);have h2:=@run_callFunc_extern prog 120 _ (ReflectliteValue.methodAny (ReflectliteValue.valueError "reflectlite.Value.Type" 0) (λt _ _ _=>ReflectliteType.toType t)) func120 (by kernel_rfl) (by kernel_rfl) (by kernel_rfl) (by kernel_rfl);have h3:=@run_callFunc_extern prog 121 _ (ReflectliteValue.method (ReflectliteValue.valueError "reflectlite.Value.IsNil" 0) ReflectliteValue.isNil) func121 (by kernel_rfl) (by kernel_rfl) (by kernel_rfl) (by kernel_rfl);have h4:=@run_callFunc_extern prog 248 _ (ReflectliteType.abiMethod λt=>do pure (.int .u8 (<-Rtype.kind t))) func248 (by kernel_rfl) (by kernel_rfl) (by kernel_rfl) (by kernel_rfl);have h5:=@run_callFunc_extern prog 261 _ (ReflectliteType.method ReflectliteType.elem) func261 (by kernel_rfl) (by kernel_rfl) (by kernel_rfl) (by kernel_rfl);have h6:=@run_callFunc_extern prog 262 _ (ReflectliteType.relation "Implements" ReflectliteType.implements_) func262 (by kernel_rfl) (by kernel_rfl) (by kernel_rfl) (by kernel_rfl);have h7:=@run_callFunc_extern prog 97 _ ReflectliteType.typeOf func97 (by kernel_rfl) (by kernel_rfl) (by kernel_rfl) (by kernel_rfl);have h8:=@run_callFunc_extern prog 259 _ (ReflectliteType.relation "AssignableTo" ReflectliteType.assignableTo) func259 (by kernel_rfl) (by kernel_rfl) (by kernel_rfl) (by kernel_rfl);have h9:=@run_callFunc_extern prog 162 _ (ReflectliteValue.method (ReflectliteValue.valueError "reflectlite.Value.Elem" 0) ReflectliteValue.elem) func162 (by kernel_rfl) (by kernel_rfl) (by kernel_rfl) (by kernel_rfl);have h10:=@run_callFunc_extern prog 163 _ ReflectliteValue.set func163 (by kernel_rfl) (by kernel_rfl) (by kernel_rfl) (by kernel_rfl);have tO:=Uk;have mA:=methodAssignableTo;have lO:=run_typeAssert_lacksB (P:=prog) (z:=.nilIface) (t:=37) (asserted:=292) rfl (by kernel_rfl) (by kernel_rfl);have lE:=run_typeAssert_lacksB (P:=prog) (z:=.nilIface) (t:=37) (asserted:=280) rfl (by kernel_rfl) (by kernel_rfl);have lB:=run_typeAssert_lacksB (P:=prog) (z:=.nilIface) (t:=37) (asserted:=281) rfl (by kernel_rfl) (by kernel_rfl);have a25:=b1S;have f6:=Ly;have f7:=vo;have mK:=methodKind;have mE:=methodElem;have mI:=methodImplements;have k27:=vn;have k25:=vm;have e27:=vj;have i25:=an;have n8:=wj ⟨w.heap.size,0,none⟩ t ((w.alloc (.cells #[.pointer (some t)] 162)).alloc (.cells #[.pointer (some ⟨7,162,none⟩),.pointer (some ⟨w.heap.size,0,none⟩),.int .u64 150] 228)) (by simp);have hlt:=World.block_lt_of_cell? w _ hg;have hg2:((w.alloc (.cells #[.pointer (some t)] 162)).alloc (.cells #[.pointer (some ⟨7,162,none⟩),.pointer (some ⟨w.heap.size,0,none⟩),.int .u64 150] 228)).cell? ⟨0,0,none⟩=some (.iface 275 (.agg #[.pointer (some ⟨7,34,none⟩)])):=by
  rw[World.cell?_alloc_lt _ _ ⟨0,0,none⟩ (by simp),World.cell?_alloc_lt _ _ ⟨0,0,none⟩ hlt];exact hg
 go_enter func65,ntmps65
 go_wp2;refine wp_loop_rounds 1 ?_;rw[rounds_succ];go_wp2;go_ret;exact⟨rfl,(((Ext.refl w).new _).new _).new _⟩
end
section
open Go.RowKit
theorem Ext.trans'{a b c:World}{B:Nat}(h:Ext a b)(k:Below B b c)(hB:a.heap.size<=B:=by first|exact aj _|omega|(have:=Below.size (by assumption);simp at *;omega)):Ext a c:=Below.trans h (k.mono hB)
def Laid(w:World):Prop:=w.cell? ⟨0,0,none⟩=some (.iface 275 (.agg #[.pointer (some ⟨7,34,none⟩)]))
theorem Laid.ext{w w':World}(h:Laid w)(he:Ext w w'):Laid w':=he.cell h
def sL(t:Addr)(v:Value)(w:World)(e:Ending)(w':World):Prop:=e=.returned (.bool true)/\w'.cell? t=some v/\Below t.block w w'
theorem sX{t:Addr}{v old:Value}{w w1:World}(ht:w.cell? t=some old)(h:Ext w w1):(w1.setCell t v).cell? t=some v/\Below t.block w (w1.setCell t v):=
 ⟨World.cell?_setCell_same w1 t v (h.cell ht),(h.mono (Nat.le_of_lt (World.block_lt_of_cell? w t ht))).setCell (aj _) _⟩
theorem c2b(n:Int)(t:Addr)(old:Value)(w:World)(h:Laid w)(ht:w.cell? t=some old)(hf:w.frozen? t=false):
 Calls prog 65 #[.iface 37 (.int .i64 n),.iface 163 (.pointer (some t))] w (sL t (.int .i64 n) w):=by
 refine(c2Y n t old w h ht hf).mono ?_;rintro e w' ⟨rfl,rfl⟩;exact⟨rfl,sX ht ((((Ext.refl w).new _).new _).new _ |>.new _)⟩
theorem c2c(a:Addr)(t:Addr)(old:Value)(w:World)(h:Laid w)(ht:w.cell? t=some old)(hf:w.frozen? t=false):
 Calls prog 65 #[.iface 132 (.pointer (some a)),.iface 162 (.pointer (some t))] w (sL t (.pointer (some a)) w):=by
 refine(c2X a t old w h ht hf).mono ?_;rintro e w' ⟨rfl,rfl⟩;exact⟨rfl,sX ht ((((Ext.refl w).new _).new _).new _ |>.new _)⟩
theorem c2d(w:World):
 Calls prog 15 #[.nilIface] w λe w'=>e=.returned (.tuple #[.int .i64 0,.string ⟨#[]⟩])/\Ext w w':=by
 go_enter func15,ntmps15
 go_wp2;go_ret2
 exact⟨rfl,((Ext.refl w).new _).new _⟩
theorem c2e(n:Int)(w:World)(h:Laid w):
 Calls prog 15 #[.iface 37 (.int .i64 n)] w λe w'=>e=.returned (.tuple #[.int .i64 n,.string ⟨#[]⟩])/\Ext w w':=by
 have H:=ah h;clear h;go_enter func15,ntmps15
 go_wp2_with fail
 refine(c2Z n _ _ (Laid.ext H.out (((Ext.refl w).new _).new _))).mono ?_;rintro e w1 ⟨rfl,hb1⟩;have hE1:Ext w w1:=(((Ext.refl w).new (.cells #[.int .i64 0] 37)).new (.cells #[.pointer none] 132)).trans hb1;have hc0:w1.cell? ⟨w.heap.size,0,none⟩=some (.int .i64 0):=(Below.cell hb1 (by simp;omega)).trans (by simp);have hf0:w1.frozen? ⟨w.heap.size,0,none⟩=false:=(Below.frozen hb1 (by simp;omega)).trans (by simp);go_wp2_with fail
 refine(c2b n _ (.int .i64 0) _ (Laid.ext H.out hE1) hc0 hf0).mono ?_;rintro e w2 ⟨rfl,hc2,hb2⟩;go_wp2_with fail
 go_ret2
 exact⟨rfl,hE1.trans' hb2⟩
theorem b8S(a:Addr)(name:ByteArray)(n:Int)(w:World)(h:Laid w)(h0:w.cell? a=some (.string name))(h1:w.cell? ⟨a.block,a.off+1,none⟩=some (.int .i64 n)):
 Calls prog 15 #[.iface 132 (.pointer (some a))] w λe w'=>e=.returned (.tuple #[.int .i64 n,.string name])/\Ext w w':=by
 have H:=ah h;clear h;go_enter func15,ntmps15
 go_wp2_with fail
 refine(c2c a ⟨w.heap.size+1,0,none⟩ (.pointer none) _ (Laid.ext H.out (((Ext.refl w).new _).new _)) (by simp) (by simp)).mono ?_;rintro e w1 ⟨rfl,hc1,hb1⟩;have hb1':Below (w.heap.size+1) ((w.alloc (.cells #[.int .i64 0] 37)).alloc (.cells #[.pointer none] 132)) w1:=hb1;have hE1:Ext w w1:=Below.trans (((Ext.refl w).new (.cells #[.int .i64 0] 37)).new (.cells #[.pointer none] 132)) (hb1'.mono (by omega));have h01:=hE1.cell h0;have h11:=hE1.cell h1;clear h0 h1;go_wp2;go_quiet (fail)
 go_wp2;go_ret2
 exact⟨rfl,hE1.trans (Ext.drewN _ _)⟩
end
section
open Go.RowKit Pl
theorem Hl{c d:Nat}{x y:Int}(hx:x=c)(hy:y=d)(hc:c<4294967296)(hd:d<4294967296):
 bits BinOp.xor IntKind.u32 x y=((c ^^^ d:Nat):Int):=by
 rw[hx,hy];exact u32_xor_nat c d hc hd
theorem c1Y{D:Nat}(hD:D<4294967296):
 bits BinOp.xor IntKind.u32 ((D:Int)/2) (bits BinOp.and IntKind.u32 (D:Int) 1*3988292384%4294967296)=(wH D:Int):=by
 have h1:bits BinOp.and IntKind.u32 (D:Int) 1=((D%2:Nat):Int):=by
  have:=u32_and_nat D 1 hD (by omega);rw[nat_mask1] at this;exact this
 rw[h1];unfold wH;by_cases hb:D%2=1
 ·rw[if_pos hb,hb];exact Hl (by omega) (by omega) (by omega) (by omega)
 ·rw[if_neg hb,show D%2=0 by omega];exact Hl (by omega) (by omega) (by omega) (by omega)
theorem ZZ{D:Nat}(hD:D<4294967296)(h:D%2=1):bits BinOp.xor IntKind.u32 ((D:Int)/2) 3988292384=(wH D:Int):=by
 unfold wH;rw[if_pos h];exact Hl (by omega) (by omega) (by omega) (by omega)
theorem c1Z{D:Nat}(h:¬D%2=1):(D:Int)/2=(wH D:Int):=by
 unfold wH;rw[if_neg h,Nat.xor_zero];omega
theorem sum_any(v:Value)(l:List UInt8)(w:World)(h:Bytes w v l):
 Calls prog 128 #[v] w λe w'=>e=.returned (.int .u32 (crc l))/\w=w':=by
 obtain⟨a,cap,rfl,hc,hc',hcell⟩:=h.open;go_enter func128,ntmps128
 go_wp2;go_loop [3,8] (λc i=>∃k:Nat,k<=l.length/\i=.int .i64 k/\c=.int .u32 (Y3 4294967295 (l.take k))) (λ_ i=>l.length - (intOf i).toNat)
 case atStart=>exact⟨0,bU _,rfl,rfl⟩
 case round=>
  obtain⟨k,hk,rfl,rfl⟩:=hrel;by_cases hlt:k<l.length
  ·obtain⟨b,rfl,hb⟩:=hcell k hlt;have hs:Hid (Y3 4294967295 (l.take (k+1))=CX (Y3 4294967295 (l.take k)) l[k]):=by
    have e:Y3 4294967295 (l.take (k+1))=CX (Y3 4294967295 (l.take k)) l[k]:=by rw[take_snoc l k hlt,Wz]
    exact e
   have hC:=QI (l.take k) (c:=4294967295) (by omega);clear hcell;generalize Y3 4294967295 (l.take k)=C at *;have hx:=JL l[k];generalize l[k]=x at *;go_wp2;go_loop [3,16] (λc i=>∃j:Nat,j<=8/\i=.int .i64 j/\c=.int .u32 (uj j (C ^^^ x.toNat))) (λ_ i=>8 - (intOf i).toNat)
   case atStart=>exact⟨0,by omega,rfl,congrArg (Value.int .u32) (Hl rfl (by omega) hC (by omega))⟩
   case round=>
    obtain⟨j,hj,rfl,rfl⟩:=hrel;have hfin:8=j->CX C x=uj j (C ^^^ x.toNat):=by rintro rfl;rfl
    have hD:=cC j (Qe hC (b:=x.toNat) (by omega));have hn:Hid (uj (j+1) (C ^^^ x.toNat)=wH (uj j (C ^^^ x.toNat))):=W1 j _;generalize uj j (C ^^^ x.toNat)=D at *;by_cases hjl:j<8
    ·go_wp2;go_round
     case rel=>
      refine⟨j+1,by omega,by go_num,?_⟩;rw[hn.out,c1Y hD]
     case measure=>simp[intOf];omega
    ·go_wp2;go_round
     case rel=>exact⟨k+1,by omega,by go_num,by rw[hs.out];rw[hfin (by omega)]⟩
     case measure=>simp[intOf];omega
  ·go_wp2;go_ret;obtain rfl:k=l.length:=by omega
   refine⟨?_,rfl⟩;show Ending.returned (Value.int .u32 (bits BinOp.xor IntKind.u32 IntKind.u32.max _))=_;rw[bG,show IntKind.u32.max=((4294967295:Nat):Int) from rfl,Hl rfl rfl (by omega) (QI l (by omega)),Nat.xor_comm];rfl
theorem QH(v:Value)(l:List UInt8)(w:World)(h:Bytes w v l):
 Calls prog 76 #[v] w λe w'=>e=.returned (.int .u32 (crc l))/\w=w':=by
 obtain⟨a,cap,rfl,hc,hc',hcell⟩:=h.open;go_enter func76,ntmps76
 go_wp2;go_loop [3,4] (λc i=>∃k:Nat,k<=l.length/\i=.int .i64 k/\c=.int .u32 (Y3 4294967295 (l.take k))) (λ_ i=>l.length - (intOf i).toNat)
 case atStart=>exact⟨0,bU _,rfl,rfl⟩
 case round=>
  obtain⟨k,hk,rfl,rfl⟩:=hrel;by_cases hlt:k<l.length
  ·obtain⟨b,rfl,hb⟩:=hcell k hlt;have hs:Hid (Y3 4294967295 (l.take (k+1))=CX (Y3 4294967295 (l.take k)) l[k]):=by
    have e:Y3 4294967295 (l.take (k+1))=CX (Y3 4294967295 (l.take k)) l[k]:=by rw[take_snoc l k hlt,Wz]
    exact e
   have hC:=QI (l.take k) (c:=4294967295) (by omega);clear hcell;generalize Y3 4294967295 (l.take k)=C at *;have hx:=JL l[k];generalize l[k]=x at *;go_wp2;go_loop [3,5,6] (λc i _=>∃j:Nat,j<=8/\i=.int .i64 j/\c=.int .u32 (uj j (C ^^^ x.toNat))) (λ_ i _=>8 - (intOf i).toNat)
   case atStart=>exact⟨0,by omega,rfl,congrArg (Value.int .u32) (Hl rfl (by omega) hC (by omega))⟩
   case round=>
    obtain⟨j,hj,rfl,rfl⟩:=hrel;have hfin:8=j->CX C x=uj j (C ^^^ x.toNat):=by rintro rfl;rfl
    have hD:=cC j (Qe hC (b:=x.toNat) (by omega));have hn:Hid (uj (j+1) (C ^^^ x.toNat)=wH (uj j (C ^^^ x.toNat))):=W1 j _;generalize uj j (C ^^^ x.toNat)=D at *;by_cases hjl:j<8
    ·by_cases hodd:D%2=1;all_goals
      have ho:(((D:Int)%2==1)=decide (D%2=1)):=by rw[Bool.eq_iff_iff];simp;omega
      simp only[hodd,decide_true,decide_false] at ho;go_wp2;go_round
      case rel=>
       refine⟨j+1,by omega,by go_num,?_⟩;rw[hn.out];first|rw[ZZ hD hodd]|rw[<-c1Z hodd]
      case measure=>simp[intOf];omega
    ·go_wp2;go_round
     case rel=>exact⟨k+1,by omega,by go_num,by rw[hs.out];rw[hfin (by omega)]⟩
     case measure=>simp[intOf];omega
  ·go_wp2;go_ret;obtain rfl:k=l.length:=by omega
   refine⟨?_,rfl⟩;show Ending.returned (Value.int .u32 (bits BinOp.xor IntKind.u32 _ _))=_;rw[bG,show(4294967295:Int)=((4294967295:Nat):Int) from rfl,Hl rfl rfl (QI l (by omega)) (by omega)];rfl
end
section
open Go.RowKit Go.Lib Pl
def Hm(B:Nat)(l:List UInt8)(w:World)(e:Ending)(w':World):Prop:=∃v,e=.returned v/\OwnB w' B v l/\Below B w w'
end
section
open Go.RowKit Go.Lib Pl
def YO(seq:Nat)(k v:ByteArray)(d:Bool):Value:=.agg #[.int .u64 seq,.string k,.string v,.bool d]
def Z5(n:Int):Value:=.iface 37 (.int .i64 n)
def o8(w:World)(n:Nat)(t:TypeId)(cs:Array Value):Prop:=w.heap[n]?=some (.cells cs t (0,0))
theorem o8.cell{w:World}{n:Nat}{t:TypeId}{cs:Array Value}(h:o8 w n t cs)(i:Nat):w.cell? ⟨n,i,none⟩=cs[i]?:=by
 unfold o8 at h;simp[World.cell?,h]
theorem o8.new{w:World}{n:Nat}(cs:Array Value)(t:TypeId)(h:w.heap.size=n):o8 (w.alloc (.cells cs t)) n t cs:=by
 subst h;exact heap_alloc_new w _
theorem o8.below{w w':World}{n B:Nat}{t:TypeId}{cs:Array Value}(h:o8 w n t cs)(hb:Below B w w')(hn:n<B):o8 w' n t cs:=
 (hb.block n hn).trans h
theorem o8.grown{w w':World}{n:Nat}{t:TypeId}{cs:Array Value}(h:o8 w n t cs){row:Option Nat}(hg:w.grownBy w' row)(hr:∀k,row=some k->n<k):o8 w' n t cs:=
 (hg.block n (lt_of_block h) (λe=>by have:=hr n e.symm;omega)).trans h
theorem o8.alloc{w:World}{n:Nat}{t:TypeId}{cs:Array Value}(h:o8 w n t cs)(o:Obj):o8 (w.alloc o) n t cs:=
 (Below.heap_alloc w o n (lt_of_block h)).trans h
end
section
open Go.RowKit Go.Lib Pl
theorem add_block(a:Addr)(n:Nat):(a.add n).block=a.block:=by unfold Addr.add;split<;>rfl
def X6(w:World)(b:Nat)(v:Value)(l:List UInt8):Prop:=Bytes w v l/\∀ad n c,v=.slice (some ad) n c->l≠[]->ad.block<b
theorem X6.below{w w':World}{b:Nat}{v:Value}{l:List UInt8}(h:X6 w b v l)(hb:Below b w w'):X6 w' b v l:=by
 obtain⟨⟨a,cap,rfl,h1,h2,h3⟩,h4⟩:=h;refine⟨⟨a,cap,rfl,h1,h2,λhx=>?_⟩,h4⟩;obtain⟨ad,rfl,hc⟩:=h3 hx;refine⟨ad,rfl,λi x hi=>?_⟩;have hlt:=h4 ad _ _ rfl (by intro e;subst e;simp at hx);exact(hb.cell (p:=ad.add i) (by rw[add_block];exact hlt)).trans (hc i x hi)
theorem X6.of{w:World}{v:Value}{l:List UInt8}(h:Bytes w v l):X6 w w.heap.size v l:=by
 refine⟨h,?_⟩;rintro ad n c rfl hne;obtain⟨a,cap,hv,h1,h2,h3⟩:=h;injection hv with ha;obtain⟨b,hb,hc⟩:=h3 (by simpa using hne);rw[hb] at ha;injection ha with ha;subst ha
 cases l with
 | nil=>exact absurd rfl hne
 | cons x l=>
  have:=World.block_lt_of_cell? w _ (hc 0 _ rfl);rw[add_block] at this;exact this
theorem X6.sliced{w:World}{b:Nat}{a:Option Addr}{n cap:Nat}{l:List UInt8}(h:X6 w b (.slice a n cap) l)(i j:Nat)(hij:i<=j)(hj:j<=l.length):
 X6 w b (.slice (if cap=i then a else a.map (·.add i)) (j - i) (cap - i)) ((l.take j).drop i):=by
 refine⟨h.1.sliced i j hij hj,?_⟩;rintro ad m c hv hne;injection hv with ha;have hl:l≠[]:=by intro e;subst e;simp at hne
 cases a with
 | none=>split at ha<;>simp at ha
 | some a0=>
  have:=h.2 a0 n cap rfl hl;split at ha
  ·injection ha with ha;subst ha;exact this
  ·simp at ha;subst ha;rw[add_block];exact this
theorem X6.head{w:World}{b:Nat}{a:Option Addr}{m cap:Nat}{l:List UInt8}(h:X6 w b (.slice a m cap) l)(n:Nat)(hn:n<=l.length):X6 w b (.slice a n n) (l.take n):=by
 obtain⟨⟨a',c,hv,h1,h2,h3⟩,h4⟩:=h;injection hv with ha hm hc;subst ha;subst hc;have hlen:(l.take n).length=n:=by rw[bD];omega
 refine⟨?_,?_⟩
 ·unfold Bytes;rw[hlen];refine⟨_,_,rfl,aj _,⟨by omega,λhn=>by have:=h2.2 hn;omega⟩,λhx=>?_⟩;obtain⟨ad,hb,hcell⟩:=h3 (by intro e;apply hx;simp at e;subst e;simp);refine⟨ad,hb,λi x hi=>hcell i x ?_⟩;rw[List.map_take,dA] at hi;split at hi
  ·exact hi
  ·cases hi
 ·rintro ad k c hv hne;injection hv with ha;exact h4 ad _ _ (by rw[ha]) (by intro e;subst e;simp at hne)
def L6(w:World)(b B:Nat)(l:List UInt8)(bad:Bool):Prop:=
 ∃v,w.heap[b]?=some (.cells #[v,.bool bad] 241 (0,0))/\B<=b/\X6 w B v l
theorem L6.set{w:World}{b B:Nat}{l:List UInt8}{bad:Bool}(h:L6 w b B l bad){a:Addr}(ha:a.block≠b)(hB:B<=a.block)(u:Value):L6 (w.setCell a u) b B l bad:=by
 obtain⟨v,h1,h2,h3⟩:=h;exact⟨v,by rw[Below.heap_setCell _ _ _ _ (bP ha)];exact h1,h2,h3.below ((Below.refl B w).setCell hB _)⟩
def tA(b B:Nat)(l:List UInt8)(w:World)(e:Ending)(w':World):Prop:=e=.returned (.slice none 0 0)/\L6 w' b B l true/\Below b w w'
def tw(b B n:Nat)(l:List UInt8)(w:World)(e:Ending)(w':World):Prop:=∃v,e=.returned v/\X6 w' B v (l.take n)/\L6 w' b B (l.drop n) false/\Below b w w'
theorem Kw{w:World}{b:Nat}{u v:Value}{t:TypeId}(h:w.heap[b]?=some (.cells #[u,v] t (0,0))):
 w.cell? ⟨b,0,none⟩=some u/\w.cell? ⟨b,1,none⟩=some v/\w.frozen? ⟨b,0,none⟩=false/\w.frozen? ⟨b,1,none⟩=false:=by
 simp[World.cell?,World.frozen?,h]
theorem Ft{w:World}{b:Nat}{u v x:Value}{t:TypeId}(h:w.heap[b]?=some (.cells #[u,v] t (0,0))):(w.setCell ⟨b,0,none⟩ x).heap[b]?=some (.cells #[x,v] t (0,0)):=by
 simp[World.setCell,aO,h]
theorem E9{w:World}{b:Nat}{u v x:Value}{t:TypeId}(h:w.heap[b]?=some (.cells #[u,v] t (0,0))):(w.setCell ⟨b,1,none⟩ x).heap[b]?=some (.cells #[u,x] t (0,0)):=by
 simp[World.setCell,aO,h]
theorem wv(b B n:Nat)(l:List UInt8)(bad:Bool)(w:World)(h:L6 w b B l bad)(hn:bad=true\/l.length<n):
 Calls prog 166 #[.pointer (some ⟨b,0,none⟩),.int .u64 n] w (tA b B l w):=by
 obtain⟨v,hb,hBb,hv⟩:=h;have hfin:tA b B l w (.returned (.slice none 0 0)) (w.setCell ⟨b,1,none⟩ (.bool true)):=by
  have hB:Below b w (w.setCell ⟨b,1,none⟩ (.bool true)):=(Below.refl b w).setCell (aj _) _;exact⟨rfl,⟨v,E9 hb,hBb,hv.below (hB.mono hBb)⟩,hB⟩
 have HF:=ah hfin;clear hfin;obtain⟨hc0,hc1,hf0,hf1⟩:=Kw hb;clear hb;obtain⟨⟨a,cap,rfl,h1,h2,h3⟩,h4⟩:=hv;have hwl:IntKind.u64.wrap (l.length:Int)=(l.length:Int):=by rw[IntKind.wrap_u64];omega
 clear h2 h3 h4;by_cases hbad:bad=true
 ·subst hbad;go_enter func166,ntmps166
  go_wp2;go_ret;exact HF.out
 ·obtain rfl:bad=false:=by simpa using hbad
  have hlt:l.length<n:=by simpa using hn
  go_enter func166,ntmps166
  go_wp2;go_ret;exact HF.out
theorem Bn(b B n:Nat)(l:List UInt8)(w:World)(h:L6 w b B l false)(hn:n<=l.length):
 Calls prog 166 #[.pointer (some ⟨b,0,none⟩),.int .u64 n] w (tw b B n l w):=by
 obtain⟨v,hb,hBb,hv⟩:=h;obtain⟨⟨a,cap,rfl,h1,h2,h3⟩,h4⟩:=id hv;have HV:=ah hv;have HB:=ah hb;obtain⟨hc0,hc1,hf0,hf1⟩:=Kw hb;clear hb hv;have hwl:IntKind.u64.wrap (l.length:Int)=(l.length:Int):=by rw[IntKind.wrap_u64];omega
 have hnl:¬l.length<n:=by omega
 clear h2 h3 h4;have hfin:∀u,X6 w B u (l.drop n)->tw b B n l w (.returned (.slice a n n)) (w.setCell ⟨b,0,none⟩ u):=by
  intro u hu;have hB:Below b w (w.setCell ⟨b,0,none⟩ u):=(Below.refl b w).setCell (aj _) _;exact⟨_,rfl,(HV.out.head n hn).below (hB.mono hBb),⟨u,Ft HB.out,hBb,hu.below (hB.mono hBb)⟩,hB⟩
 have ht:=HV.out.sliced n l.length hn (aj _);rw[bG] at ht;have HF:=ah hfin;clear hfin;have HT:=ah ht;clear ht;by_cases hcn:cap=n
 ·subst hcn;have Ih:=ah (by simpa using HT.out:X6 w B (.slice a (l.length - cap) 0) (l.drop cap));go_enter func166,ntmps166
  go_wp2;go_ret;have e0:l.length - cap=0:=by omega
  have ht:=Ih.out;rw[e0] at ht;exact HF.out _ ht
 ·have Ih:=ah (by simpa [hcn] using HT.out:X6 w B (.slice (Option.map (λx=>x.add n) a) (l.length - n) (cap - n)) (l.drop n));go_enter func166,ntmps166
  go_wp2;go_ret;exact HF.out _ Ih.out
def ZN(b B:Nat)(m:Nat)(l:List UInt8)(bad:Bool)(w:World)(e:Ending)(w':World):Prop:=e=.returned (.int .u64 m)/\L6 w' b B l bad/\Below b w w'
theorem b5Q(b B n:Nat)(l:List UInt8)(bad:Bool)(w:World)(h:L6 w b B l bad)(hn:bad=true\/l.length<n):
 Calls prog 126 #[.pointer (some ⟨b,0,none⟩),.int .u64 n] w (ZN b B 0 l true w):=by
 have H:=ah h;clear h;go_enter func126,ntmps126
 go_wp2_with fail
 refine(wv b B n l bad w H.out hn).mono ?_;rintro e w1 ⟨rfl,h1,h2⟩;have H1:=ah h1;clear h1;go_wp2;refine wp_loop_rounds 1 ?_;rw[rounds_succ];go_wp2;go_ret;exact⟨rfl,H1.out,h2⟩
theorem A9{C:Nat}{x:UInt8}(hC:C<72057594037927936):bits BinOp.or IntKind.u64 ((C:Int)*256) (x.toNat:Int)=((C*256+x.toNat:Nat):Int):=by
 have hx:=JL x;have h1:=u64_or_nat (C*256) x.toNat (by omega) (by omega);have h2:((C*256:Nat):Int)=(C:Int)*256:=by omega
 rw[h2] at h1;rw[h1,nat_join 8 (C*256) x.toNat (by omega) (by omega)]
theorem b5R(b B n:Nat)(l:List UInt8)(w:World)(h:L6 w b B l false)(hn:n<=l.length)(h8:n<=8):
 Calls prog 126 #[.pointer (some ⟨b,0,none⟩),.int .u64 n] w (ZN b B (num (l.take n)) (l.drop n) false w):=by
 have H:=ah h;clear h;go_enter func126,ntmps126
 go_wp2_with fail
 refine(Bn b B n l w H.out hn).mono ?_;rintro e w1 ⟨v,rfl,⟨hv,_⟩,h1,h2⟩;have H1:=ah h1;clear h1;have hlen:(l.take n).length<=8:=by rw[bD];omega
 generalize l.take n=m at *;obtain⟨a,cap,rfl,hc,hc',hcell⟩:=hv.open;go_wp2;go_loop [5,7,12] (λc _ i=>∃k:Nat,k<=m.length/\i=.int .i64 k/\c=.int .u64 (num (m.take k))) (λ_ _ i=>m.length - (intOf i).toNat)
 case atStart=>exact⟨0,bU _,rfl,rfl⟩
 case round=>
  obtain⟨k,hk,rfl,rfl⟩:=hrel;by_cases hlt:k<m.length
  ·obtain⟨ad,rfl,hb⟩:=hcell k hlt;have hs:Hid (num (m.take (k+1))=num (m.take k)*256+m[k].toNat):=by
    have e:num (m.take (k+1))=num (m.take k)*256+m[k].toNat:=by rw[take_snoc m k hlt,ZO]
    exact e
   have hC:num (m.take k)<256^7:=ak (TG _) (ji (by omega) (by rw[bD];omega));clear hcell;generalize num (m.take k)=C at *;have hx:=JL m[k];generalize m[k]=x at *;have hC':C<72057594037927936:=hC;clear hC;go_wp2;go_round
   case rel=>
    refine⟨k+1,by omega,by go_num,?_⟩;rw[hs.out,A9 hC']
   case measure=>simp[intOf];omega
  ·go_wp2;go_ret;obtain rfl:k=m.length:=by omega
   exact⟨by rw[bG];rfl,H1.out,h2⟩
theorem U0{w:World}{v:Value}{l:List UInt8}(hb:Bytes w v l):
 (convert 25 9 v).run prog w=.ok (.string ⟨l.toArray⟩) w:=by
 obtain⟨a,cap,rfl,h1,h2,h3⟩:=hb.open
 cases a with
 | none=>
  have:l=[]:=by
   cases l with
   | nil=>rfl
   | cons x l=>obtain⟨b,hb,_⟩:=h3 0 (by simp);cases hb
  subst this
  exact run_convert_bytes_nil w 25 5 underlying25 underlying5 _ _ 9 underlying9
 | some ad=>
  exact run_convert_bytes_back w 25 9 5 ad cap l underlying25 underlying5 underlying9 (λj hj=>by
   obtain⟨b,hb,hc⟩:=h3 j hj;injection hb with hb;subst hb;exact hc)
def Zd(b B:Nat)(s:List UInt8)(l:List UInt8)(bad:Bool)(w:World)(e:Ending)(w':World):Prop:=e=.returned (.string ⟨s.toArray⟩)/\L6 w' b B l bad/\Below b w w'
theorem c1S(b B n:Nat)(l:List UInt8)(bad:Bool)(w:World)(h:L6 w b B l bad)(hn:bad=true\/l.length<n):
 Calls prog 127 #[.pointer (some ⟨b,0,none⟩),.int .u64 n] w (Zd b B [] l true w):=by
 have H:=ah h;clear h;go_enter func127,ntmps127
 go_wp2_with fail
 refine(wv b B n l bad w H.out hn).mono ?_;rintro e w1 ⟨rfl,h1,h2⟩;have H1:=ah h1;clear h1;have hs:=U0 (w:=w1) (v:=.slice none 0 0) (l:=[]) ⟨none,0,rfl,aj _,⟨by omega,λ_=>rfl⟩,λh=>absurd rfl h⟩;go_wp2;go_ret;exact⟨rfl,H1.out,h2⟩
theorem c1T(b B n:Nat)(l:List UInt8)(w:World)(h:L6 w b B l false)(hn:n<=l.length):
 Calls prog 127 #[.pointer (some ⟨b,0,none⟩),.int .u64 n] w (Zd b B (l.take n) (l.drop n) false w):=by
 have H:=ah h;clear h;go_enter func127,ntmps127
 go_wp2_with fail
 refine(Bn b B n l w H.out hn).mono ?_;rintro e w1 ⟨v,rfl,⟨hv,_⟩,h1,h2⟩;have H1:=ah h1;clear h1;have hs:=U0 hv;clear hv;go_wp2;go_ret;exact⟨rfl,H1.out,h2⟩
theorem QV(b B n:Nat)(s:List UInt8×Bool)(w:World)(h:L6 w b B s.1 s.2)(h8:n<=8):
 Calls prog 126 #[.pointer (some ⟨b,0,none⟩),.int .u64 n] w (ZN b B (lg s n).1 (lg s n).2.1 (lg s n).2.2 w):=by
 unfold lg;by_cases hc:s.2=true\/s.1.length<n
 ·rw[if_pos hc];exact b5Q b B n s.1 s.2 w h hc
 ·rw[if_neg hc];have h2:s.2=false:=by simpa using λe=>hc (.inl e)
  rw[h2] at h;exact b5R b B n s.1 w h (by omega) h8
theorem GO(b B n:Nat)(s:List UInt8×Bool)(w:World)(h:L6 w b B s.1 s.2):
 Calls prog 127 #[.pointer (some ⟨b,0,none⟩),.int .u64 n] w (Zd b B (uF s n).1 (uF s n).2.1 (uF s n).2.2 w):=by
 unfold uF;by_cases hc:s.2=true\/s.1.length<n
 ·rw[if_pos hc];exact c1S b B n s.1 s.2 w h hc
 ·rw[if_neg hc];have h2:s.2=false:=by simpa using λe=>hc (.inl e)
  rw[h2] at h;exact c1T b B n s.1 w h (by omega)
end
section
open Go.RowKit Go.Lib Pl
def xC:Value:=.agg #[.int .u64 0,.string ⟨#[]⟩,.string ⟨#[]⟩,.bool false]
def nK:Option Rec->Value
 | none=>.tuple #[xC,.int .i64 0,Z5 3]
 | some r=>.tuple #[.agg #[.int .u64 r.seq,.string ⟨r.key.toArray⟩,.string ⟨r.val.toArray⟩,.bool r.del],.int .i64 r.size,.nilIface]
def xm(r:Option Rec)(w:World)(e:Ending)(w':World):Prop:=e=.returned (nK r)/\Ext w w'
theorem o8.set{w:World}{n:Nat}{t:TypeId}{cs:Array Value}(h:o8 w n t cs)(i:Nat)(u:Value):o8 (w.setCell ⟨n,i,none⟩ u) n t (cs.setIfInBounds i u):=by
 unfold o8 at *;simp[World.setCell,aO,h]
theorem o8.setOther{w:World}{n:Nat}{t:TypeId}{cs:Array Value}(h:o8 w n t cs){a:Addr}(ha:a.block≠n)(u:Value):o8 (w.setCell a u) n t cs:=
 (Below.heap_setCell _ _ _ _ (bP ha)).trans h
theorem o8.free{w:World}{n:Nat}{t:TypeId}{cs:Array Value}(h:o8 w n t cs)(i:Nat):w.frozen? ⟨n,i,none⟩=false:=by
 unfold o8 at h;simp[World.frozen?,h]
theorem Ext.iJ{w w':World}(h:Ext w w'){a:Addr}(ha:w.heap.size<=a.block){u:Value}:Ext w (w'.setCell a u):=h.setCell (p:=a) ha u
theorem decode_any(v:Value)(l:List UInt8)(w:World)(h:Bytes w v l):
 Calls prog 71 #[v] w (xm (dec l) w):=by
 obtain⟨⟨m1,s1⟩,e1⟩:∃p,p=lg (l,false) 4:=⟨_,rfl⟩;obtain⟨⟨m2,s2⟩,e2⟩:∃p,p=lg s1 8:=⟨_,rfl⟩;obtain⟨⟨fl,s3⟩,e3⟩:∃p,p=lg s2 1:=⟨_,rfl⟩;obtain⟨⟨k,s4⟩,e4⟩:∃p,p=lg s3 1:=⟨_,rfl⟩;obtain⟨⟨vl,s5⟩,e5⟩:∃p,p=lg s4 2:=⟨_,rfl⟩;obtain⟨⟨key,s6⟩,e6⟩:∃p,p=uF s5 k:=⟨_,rfl⟩;obtain⟨⟨val,s7⟩,e7⟩:∃p,p=uF s6 vl:=⟨_,rfl⟩;obtain⟨hk,hvl,hall⟩:=Is e1 e2 e3 e4 e5 e6 e7;have HA:=ah hall;clear hall;have E1:=ah e1;have E2:=ah e2;have E3:=ah e3;have E4:=ah e4;have E5:=ah e5;have E6:=ah e6;have E7:=ah e7;clear e1 e2 e3 e4 e5 e6 e7;obtain⟨a,cap,rfl,h1,h2,h3⟩:=id h;have HL:=ah (X6.of h);clear h h2 h3;go_enter func71,ntmps71
 go_wp2_with fail
 have x0:o8 (w.alloc (.cells #[.int .u64 0,.string ⟨#[]⟩,.string ⟨#[]⟩,.bool false] 111)) w.heap.size 111 #[.int .u64 0,.string ⟨#[]⟩,.string ⟨#[]⟩,.bool false]:=heap_alloc_new w _;have y0:o8 ((w.alloc (.cells #[.int .u64 0,.string ⟨#[]⟩,.string ⟨#[]⟩,.bool false] 111)).alloc (.cells #[.int .u64 0,.string ⟨#[]⟩,.string ⟨#[]⟩,.bool false] 111)) (w.heap.size+1) 111 #[.int .u64 0,.string ⟨#[]⟩,.string ⟨#[]⟩,.bool false]:=o8.new _ _ (by simp);have X:=(x0.alloc (.cells #[.int .u64 0,.string ⟨#[]⟩,.string ⟨#[]⟩,.bool false] 111)).alloc (.cells #[.slice a l.length cap,.bool false] 241);have Y:=y0.alloc (.cells #[.slice a l.length cap,.bool false] 241);have jg:Ext w (((w.alloc (.cells #[.int .u64 0,.string ⟨#[]⟩,.string ⟨#[]⟩,.bool false] 111)).alloc (.cells #[.int .u64 0,.string ⟨#[]⟩,.string ⟨#[]⟩,.bool false] 111)).alloc (.cells #[.slice a l.length cap,.bool false] 241)):=(((Ext.refl w).new _).new _).new _;have hR:L6 (((w.alloc (.cells #[.int .u64 0,.string ⟨#[]⟩,.string ⟨#[]⟩,.bool false] 111)).alloc (.cells #[.int .u64 0,.string ⟨#[]⟩,.string ⟨#[]⟩,.bool false] 111)).alloc (.cells #[.slice a l.length cap,.bool false] 241)) (w.heap.size+1+1) w.heap.size l false:=by
  refine⟨.slice a l.length cap,?_,by omega,HL.out.below jg⟩;exact o8.new _ _ (by simp)
 clear x0 y0;have c1:=QV (w.heap.size+1+1) w.heap.size 4 (l,false) _ hR (by omega);rw[<-E1.out] at c1;refine c1.mono ?_;clear c1 hR;rintro e w1 ⟨rfl,hR,hb⟩;replace jg:=Below.trans jg (hb.mono (by omega));replace X:=X.below hb (by omega);replace Y:=Y.below hb (by omega);clear hb;go_wp2_with fail
 have c2:=QV (w.heap.size+1+1) w.heap.size 8 s1 _ hR (by omega);rw[<-E2.out] at c2;refine c2.mono ?_;clear c2 hR;rintro e w2 ⟨rfl,hR,hb⟩;replace jg:=Below.trans jg (hb.mono (by omega));replace X:=X.below hb (by omega);replace Y:=Y.below hb (by omega);clear hb;have yc:w2.cell? ⟨w.heap.size+1,0,none⟩=some (.int .u64 0):=Y.cell 0;have yf:=Y.free 0;go_wp2_with fail
 clear yc yf;replace hR:=hR.set (a:=⟨w.heap.size+1,0,none⟩) (by simp) (by simp) (.int .u64 m2);replace X:=X.setOther (a:=⟨w.heap.size+1,0,none⟩) (by simp) (.int .u64 m2);replace Y:=Y.set 0 (.int .u64 m2);replace jg:=jg.setCell (p:=⟨w.heap.size+1,0,none⟩) (by simp) (.int .u64 m2);have c3:=QV (w.heap.size+1+1) w.heap.size 1 s2 _ hR (by omega);rw[<-E3.out] at c3;refine c3.mono ?_;clear c3 hR;rintro e w3 ⟨rfl,hR,hb⟩;replace jg:=Below.trans jg (hb.mono (by omega));replace X:=X.below hb (by omega);replace Y:=Y.below hb (by omega);clear hb;go_wp2_with fail
 have c4:=QV (w.heap.size+1+1) w.heap.size 1 s3 _ hR (by omega);rw[<-E4.out] at c4;refine c4.mono ?_;clear c4 hR;rintro e w4 ⟨rfl,hR,hb⟩;replace jg:=Below.trans jg (hb.mono (by omega));replace X:=X.below hb (by omega);replace Y:=Y.below hb (by omega);clear hb;go_wp2_with fail
 have c5:=QV (w.heap.size+1+1) w.heap.size 2 s4 _ hR (by omega);rw[<-E5.out] at c5;refine c5.mono ?_;clear c5 hR;rintro e w5 ⟨rfl,hR,hb⟩;replace jg:=Below.trans jg (hb.mono (by omega));replace X:=X.below hb (by omega);replace Y:=Y.below hb (by omega);clear hb;go_wp2_with fail
 have c6:=GO (w.heap.size+1+1) w.heap.size k s5 _ hR;rw[<-E6.out] at c6;refine c6.mono ?_;clear c6 hR;rintro e w6 ⟨rfl,hR,hb⟩;replace jg:=Below.trans jg (hb.mono (by omega));replace X:=X.below hb (by omega);replace Y:=Y.below hb (by omega);clear hb;go_wp2_with fail
 have c7:=GO (w.heap.size+1+1) w.heap.size vl s6 _ hR;rw[<-E7.out] at c7;refine c7.mono ?_;clear c7 hR;rintro e w7 ⟨rfl,hR,hb⟩;replace jg:=Below.trans jg (hb.mono (by omega));replace X:=X.below hb (by omega);replace Y:=Y.below hb (by omega);clear hb;have KR:w7.cell? ⟨w.heap.size+1,1,none⟩=some (.string ⟨#[]⟩):=Y.cell 1;have KQ:w7.cell? ⟨w.heap.size+1,2,none⟩=some (.string ⟨#[]⟩):=Y.cell 2;have KP:w7.cell? ⟨w.heap.size+1,3,none⟩=some (.bool false):=Y.cell 3;have kB:=Y.free 1;have kA:=Y.free 2;have kt:=Y.free 3;have xc0:w7.cell? ⟨w.heap.size,0,none⟩=some (.int .u64 0):=X.cell 0;have kL:w7.cell? ⟨w.heap.size,1,none⟩=some (.string ⟨#[]⟩):=X.cell 1;have lZ:w7.cell? ⟨w.heap.size,2,none⟩=some (.string ⟨#[]⟩):=X.cell 2;have m_:w7.cell? ⟨w.heap.size,3,none⟩=some (.bool false):=X.cell 3;have xf0:=X.free 0;have xf1:=X.free 1;have KU:=X.free 2;have KT:=X.free 3;have hwk:IntKind.i64.wrap (k:Int)=(k:Int):=IntWalk.i64_in _ (by omega);have hwv:IntKind.i64.wrap (vl:Int)=(vl:Int):=IntWalk.i64_in _ (by omega);obtain⟨rv,hr1,hr2,hr3⟩:=hR;obtain⟨Sj,Jp,WW,WV⟩:=Kw hr1;clear hr1 hr2 hr3 WW WV Sj;by_cases hbad:s7.2=true
 ·have hd:dec l=none:=by
   rcases HA.out with⟨_,h⟩|⟨h,_⟩
   ·unfold dec good;rw[aI (by omega)];rfl
   ·rw[hbad] at h;cases h
  rw[hbad] at Jp;go_wp2;refine bodyPost_ret (v:=nK none) ?_ rfl ⟨by rw[hd],?_⟩
  ·simp[results,results71,go_sem,xc0,kL,lZ,m_,nK,xC,Z5]
  ·repeat' refine Ext.iJ ?_ (by simp)
   exact jg
 replace hbad:s7.2=false:=Bool.eq_false_iff.2 hbad;rw[hbad] at Jp;obtain⟨hlen,rfl,rfl,rfl,rfl,rfl,rfl,rfl⟩:16+D9 l+H8 l<=l.length/\m1=num (List.take 4 l)/\m2=num (List.take 8 (List.drop 4 l))/\fl=P6 l/\k=D9 l/\vl=H8 l/\key=List.take k (List.drop 16 l)/\val=List.take vl (List.drop (16+k) l):=by
  rcases HA.out with⟨h,_⟩|⟨_,h⟩
  ·rw[hbad] at h;cases h
  ·exact h
 have HD:good l=false->dec l=none:=by intro h;unfold dec;rw[h];rfl
 by_cases c1:1<P6 l
 ·have hd:dec l=none:=HD (by unfold good;rw[show decide (P6 l<=1)=false from aI (by omega)];simp);go_wp2;refine bodyPost_ret (v:=nK none) ?_ rfl ⟨by rw[hd],?_⟩
  ·simp[results,results71,go_sem,xc0,kL,lZ,m_,nK,xC,Z5]
  ·repeat' refine Ext.iJ ?_ (by simp)
   exact jg
 by_cases c2:D9 l<1
 ·have hd:dec l=none:=HD (by unfold good;rw[show decide (1<=D9 l)=false from aI (by omega)];simp);go_wp2;refine bodyPost_ret (v:=nK none) ?_ rfl ⟨by rw[hd],?_⟩
  ·simp[results,results71,go_sem,xc0,kL,lZ,m_,nK,xC,Z5]
  ·repeat' refine Ext.iJ ?_ (by simp)
   exact jg
 by_cases c3:16<D9 l
 ·have hd:dec l=none:=HD (by unfold good;rw[show decide (D9 l<=16)=false from aI (by omega)];simp);go_wp2;refine bodyPost_ret (v:=nK none) ?_ rfl ⟨by rw[hd],?_⟩
  ·simp[results,results71,go_sem,xc0,kL,lZ,m_,nK,xC,Z5]
  ·repeat' refine Ext.iJ ?_ (by simp)
   exact jg
 by_cases c4:64<H8 l
 ·have hd:dec l=none:=HD (by unfold good;rw[show decide (H8 l<=64)=false from aI (by omega)];simp);go_wp2;refine bodyPost_ret (v:=nK none) ?_ rfl ⟨by rw[hd],?_⟩
  ·simp[results,results71,go_sem,xc0,kL,lZ,m_,nK,xC,Z5]
  ·repeat' refine Ext.iJ ?_ (by simp)
   exact jg
 by_cases c5:P6 l=1/\0<H8 l
 ·have hd:dec l=none:=HD (by unfold good;rw[show decide (P6 l=1)=true from aG (by omega),show decide (0<H8 l)=true from aG (by omega)];simp);have hv0:=c5.2;have hf1:((P6 l:Int)==1)=true:=dP.2 (by omega);go_wp2;refine bodyPost_ret (v:=nK none) ?_ rfl ⟨by rw[hd],?_⟩
  ·simp[results,results71,go_sem,xc0,kL,lZ,m_,nK,xC,Z5]
  ·repeat' refine Ext.iJ ?_ (by simp)
   exact jg
 by_cases hf:P6 l=1
 ·have hv0:¬0<H8 l:=λh=>c5 ⟨hf,h⟩;have hf1:((P6 l:Int)==1)=true:=dP.2 (by omega);have hsl:∀W:World,Below w.heap.size w W->Bytes W (.slice (a.map (λx=>⟨x.block,x.off+4,none⟩)) (16+D9 l+H8 l - 4) (cap - 4)) ((l.take (16+D9 l+H8 l)).drop 4):=by
   intro W hW;have:=((HL.out.below hW).sliced 4 (16+D9 l+H8 l) (by omega) (by omega)).1;rw[if_neg (by omega)] at this;exact this
  have HS:=ah hsl;clear hsl;have hcap:16+D9 l+H8 l<=cap:=by omega
  have hm1:num (l.take 4)<4294967296:=O8 l 4;have pX:Ext w (((w7.setCell ⟨w.heap.size+1,1,none⟩ (.string ⟨(List.take (D9 l) (List.drop 16 l)).toArray⟩)).setCell ⟨w.heap.size+1,2,none⟩ (.string ⟨(List.take (H8 l) (List.drop (16+D9 l) l)).toArray⟩)).setCell ⟨w.heap.size+1,3,none⟩ (.bool true)):=by
   repeat' refine Ext.iJ ?_ (by simp)
   exact jg
  have X':o8 (((w7.setCell ⟨w.heap.size+1,1,none⟩ (.string ⟨(List.take (D9 l) (List.drop 16 l)).toArray⟩)).setCell ⟨w.heap.size+1,2,none⟩ (.string ⟨(List.take (H8 l) (List.drop (16+D9 l) l)).toArray⟩)).setCell ⟨w.heap.size+1,3,none⟩ (.bool true)) w.heap.size 111 #[.int .u64 0,.string ⟨#[]⟩,.string ⟨#[]⟩,.bool false]:=by
   repeat' refine o8.setOther ?_ (by simp) _
   exact X
  have Y':o8 (((w7.setCell ⟨w.heap.size+1,1,none⟩ (.string ⟨(List.take (D9 l) (List.drop 16 l)).toArray⟩)).setCell ⟨w.heap.size+1,2,none⟩ (.string ⟨(List.take (H8 l) (List.drop (16+D9 l) l)).toArray⟩)).setCell ⟨w.heap.size+1,3,none⟩ (.bool true)) (w.heap.size+1) 111 #[.int .u64 (num ((l.drop 4).take 8)),.string ⟨(List.take (D9 l) (List.drop 16 l)).toArray⟩,.string ⟨(List.take (H8 l) (List.drop (16+D9 l) l)).toArray⟩,.bool true]:=
   ((Y.set 1 _).set 2 _).set 3 _
  go_wp2_with fail
  refine(sum_any _ _ _ (HS.out _ pX)).mono ?_;rintro e w8 ⟨rfl,hw⟩;rw[hw] at X' Y' pX;clear hw X Y jg;clear xc0 kL lZ m_ xf0 xf1 KU KT KR KQ KP kB kA kt;have xc0:=X'.cell 0;have kL:=X'.cell 1;have lZ:=X'.cell 2;have m_:=X'.cell 3;have xf0:=X'.free 0;have xf1:=X'.free 1;have KU:=X'.free 2;have KT:=X'.free 3;have kO:=Y'.cell 0;have KR:=Y'.cell 1;have KQ:=Y'.cell 2;have KP:=Y'.cell 3;have hwc:IntKind.u64.wrap (crc ((l.take (16+D9 l+H8 l)).drop 4):Int)=(crc ((l.take (16+D9 l+H8 l)).drop 4):Int):=by
   have:=Ew ((l.take (16+D9 l+H8 l)).drop 4);rw[IntKind.wrap_u64];omega
  by_cases hcr:crc ((l.take (16+D9 l+H8 l)).drop 4)=num (l.take 4)
  ·have oK:((crc ((l.take (16+D9 l+H8 l)).drop 4):Int) != (num (l.take 4):Int))=false:=by rw[bne,dP.2 (by omega)];rfl
   go_wp2;refine bodyPost_ret (v:=nK (some ⟨num ((l.drop 4).take 8),(l.drop 16).take (D9 l),(l.drop (16+D9 l)).take (H8 l),true,16+D9 l+H8 l⟩)) ?_ rfl ⟨?_,?_⟩
   ·simp[results,results71,go_sem,xc0,kL,lZ,m_,nK,xC,Z5]
   ·unfold dec;rw[if_pos (by unfold good;rw[aG hlen,aG hcr,aG (show P6 l<=1 by omega),aG (show 1<=D9 l by omega),aG (show D9 l<=16 by omega),aG (show H8 l<=64 by omega),aI (show ¬0<H8 l by omega),IC];rfl)];simp[hf]
   ·repeat' refine Ext.iJ ?_ (by simp)
    exact pX
  ·have oK:((crc ((l.take (16+D9 l+H8 l)).drop 4):Int) != (num (l.take 4):Int))=true:=by rw[bne,bn.2 (by omega)];rfl
   have hd:dec l=none:=HD (by unfold good;rw[aI hcr];simp);go_wp2;refine bodyPost_ret (v:=nK none) ?_ rfl ⟨by rw[hd],?_⟩
   ·simp[results,results71,go_sem,xc0,kL,lZ,m_,nK,xC,Z5]
   ·repeat' refine Ext.iJ ?_ (by simp)
    exact pX
 ·have hf1:((P6 l:Int)==1)=false:=bn.2 (by omega);have hsl:∀W:World,Below w.heap.size w W->Bytes W (.slice (a.map (λx=>⟨x.block,x.off+4,none⟩)) (16+D9 l+H8 l - 4) (cap - 4)) ((l.take (16+D9 l+H8 l)).drop 4):=by
   intro W hW;have:=((HL.out.below hW).sliced 4 (16+D9 l+H8 l) (by omega) (by omega)).1;rw[if_neg (by omega)] at this;exact this
  have HS:=ah hsl;clear hsl;have hcap:16+D9 l+H8 l<=cap:=by omega
  have hm1:num (l.take 4)<4294967296:=O8 l 4;have pX:Ext w (((w7.setCell ⟨w.heap.size+1,1,none⟩ (.string ⟨(List.take (D9 l) (List.drop 16 l)).toArray⟩)).setCell ⟨w.heap.size+1,2,none⟩ (.string ⟨(List.take (H8 l) (List.drop (16+D9 l) l)).toArray⟩)).setCell ⟨w.heap.size+1,3,none⟩ (.bool false)):=by
   repeat' refine Ext.iJ ?_ (by simp)
   exact jg
  have X':o8 (((w7.setCell ⟨w.heap.size+1,1,none⟩ (.string ⟨(List.take (D9 l) (List.drop 16 l)).toArray⟩)).setCell ⟨w.heap.size+1,2,none⟩ (.string ⟨(List.take (H8 l) (List.drop (16+D9 l) l)).toArray⟩)).setCell ⟨w.heap.size+1,3,none⟩ (.bool false)) w.heap.size 111 #[.int .u64 0,.string ⟨#[]⟩,.string ⟨#[]⟩,.bool false]:=by
   repeat' refine o8.setOther ?_ (by simp) _
   exact X
  have Y':o8 (((w7.setCell ⟨w.heap.size+1,1,none⟩ (.string ⟨(List.take (D9 l) (List.drop 16 l)).toArray⟩)).setCell ⟨w.heap.size+1,2,none⟩ (.string ⟨(List.take (H8 l) (List.drop (16+D9 l) l)).toArray⟩)).setCell ⟨w.heap.size+1,3,none⟩ (.bool false)) (w.heap.size+1) 111 #[.int .u64 (num ((l.drop 4).take 8)),.string ⟨(List.take (D9 l) (List.drop 16 l)).toArray⟩,.string ⟨(List.take (H8 l) (List.drop (16+D9 l) l)).toArray⟩,.bool false]:=
   ((Y.set 1 _).set 2 _).set 3 _
  go_wp2_with fail
  refine(sum_any _ _ _ (HS.out _ pX)).mono ?_;rintro e w8 ⟨rfl,hw⟩;rw[hw] at X' Y' pX;clear hw X Y jg;clear xc0 kL lZ m_ xf0 xf1 KU KT KR KQ KP kB kA kt;have xc0:=X'.cell 0;have kL:=X'.cell 1;have lZ:=X'.cell 2;have m_:=X'.cell 3;have xf0:=X'.free 0;have xf1:=X'.free 1;have KU:=X'.free 2;have KT:=X'.free 3;have kO:=Y'.cell 0;have KR:=Y'.cell 1;have KQ:=Y'.cell 2;have KP:=Y'.cell 3;have hwc:IntKind.u64.wrap (crc ((l.take (16+D9 l+H8 l)).drop 4):Int)=(crc ((l.take (16+D9 l+H8 l)).drop 4):Int):=by
   have:=Ew ((l.take (16+D9 l+H8 l)).drop 4);rw[IntKind.wrap_u64];omega
  by_cases hcr:crc ((l.take (16+D9 l+H8 l)).drop 4)=num (l.take 4)
  ·have oK:((crc ((l.take (16+D9 l+H8 l)).drop 4):Int) != (num (l.take 4):Int))=false:=by rw[bne,dP.2 (by omega)];rfl
   go_wp2;refine bodyPost_ret (v:=nK (some ⟨num ((l.drop 4).take 8),(l.drop 16).take (D9 l),(l.drop (16+D9 l)).take (H8 l),false,16+D9 l+H8 l⟩)) ?_ rfl ⟨?_,?_⟩
   ·simp[results,results71,go_sem,xc0,kL,lZ,m_,nK,xC,Z5]
   ·unfold dec;rw[if_pos (by unfold good;rw[aG hlen,aG hcr,aG (show P6 l<=1 by omega),aG (show 1<=D9 l by omega),aG (show D9 l<=16 by omega),aG (show H8 l<=64 by omega),aI hf];rfl)];simp[hf]
   ·repeat' refine Ext.iJ ?_ (by simp)
    exact pX
  ·have oK:((crc ((l.take (16+D9 l+H8 l)).drop 4):Int) != (num (l.take 4):Int))=true:=by rw[bne,bn.2 (by omega)];rfl
   have hd:dec l=none:=HD (by unfold good;rw[aI hcr];simp);go_wp2;refine bodyPost_ret (v:=nK none) ?_ rfl ⟨by rw[hd],?_⟩
   ·simp[results,results71,go_sem,xc0,kL,lZ,m_,nK,xC,Z5]
   ·repeat' refine Ext.iJ ?_ (by simp)
    exact pX
end
section
open Go.RowKit Go.Lib Pl
structure Off(g:Nat)(w w':World):Prop where
 os:w'.os=w.os
 tape:w'.tape=w.tape
 output:w'.output=w.output
 size:w'.heap.size=w.heap.size
 block:∀k,k≠g->w'.heap[k]?=w.heap[k]?
theorem Off.refl(g:Nat)(w:World):Off g w w:=⟨rfl,rfl,rfl,rfl,λ_ _=>rfl⟩
theorem Off.trans{g:Nat}{a b c:World}(h:Off g a b)(k:Off g b c):Off g a c:=
 ⟨k.os.trans h.os,k.tape.trans h.tape,k.output.trans h.output,k.size.trans h.size,λi hi=>(k.block i hi).trans (h.block i hi)⟩
theorem Off.setCell{g:Nat}{w w':World}(h:Off g w w')(i:Nat)(u:Value):Off g w (w'.setCell ⟨g,i,none⟩ u):=by
 refine h.trans ⟨rfl,rfl,rfl,by simp[World.setCell],λk hk=>?_⟩;simp[World.setCell,aO,bP hk]
theorem Off.below{g B:Nat}{w w':World}(h:Off g w w')(hB:B<=g):Below B w w':=
 ⟨h.os,h.tape,h.output,dS h.size.symm,λk hk=>h.block k (by omega)⟩
theorem Off.box{g n:Nat}{w w':World}(h:Off g w w'){t:TypeId}{cs:Array Value}(hb:o8 w n t cs)(hn:n≠g):o8 w' n t cs:=(h.block n hn).trans hb
end
section
open Go.RowKit Go.Lib Go.Maps
section pure
variable{α β:Type}[DecidableEq α]
def D7(l:List (α×β))(x:α):Option β:=(l.find? λp=>decide (p.1=x)).map (·.2)
def kU(l:List (α×β))(x:α)(y:β):List (α×β):=if x∈l.map (·.1) then l.map λp=>if p.1=x then(x,y) else p else l++[(x,y)]
def qg(l:List (α×β))(x:α):List (α×β):=l.filter λp=>decide (p.1≠x)
theorem UL{l:List (α×β)}{x:α}(h:∀p∈l,p.1≠x):D7 l x=none:=by
 unfold D7;rw[List.find?_eq_none.2 (λp hp=>by simpa using h p hp)];rfl
theorem Af{l:List (α×β)}{j:Nat}{p:α×β}(hn:(l.map (·.1)).Nodup)(hj:l[j]?=some p):D7 l p.1=some p.2:=by
 induction l generalizing j with
 | nil=>simp at hj
 | cons q l ih=>
  rw[aB,Di] at hn
  cases j with
  | zero=>simp at hj;subst hj;simp[D7]
  | succ j=>
   simp at hj;have hm:p∈l:=aJ hj;have hne:¬q.1=p.1:=λe=>hn.1 (e▸gu hm);have:=ih hn.2 hj;unfold D7 at *;rw[iM (by simpa using hne)];exact this
theorem Ad{l:List (α×β)}{x:α}{y:β}(h:D7 l x=some y):(x,y)∈l:=by
 unfold D7 at h;obtain⟨p,hp,rfl⟩:=aS.1 h;have h1:=List.find?_some hp;have h2:=List.mem_of_find?_eq_some hp;simp at h1;rw[<-h1];exact h2
theorem b73(l:List (α×β))(x:α)(y:β):(kU l x y).map (·.1)=if x∈l.map (·.1) then l.map (·.1) else l.map (·.1)++[x]:=by
 unfold kU;split
 ·rw[jQ];apply rY;intro p _;simp only[Function.comp];split
  ·rename_i h;exact h.symm
  ·rfl
 ·simp
theorem UK{l:List (α×β)}(h:(l.map (·.1)).Nodup)(x:α)(y:β):((kU l x y).map (·.1)).Nodup:=by
 rw[b73];split
 ·exact h
 ·rename_i hx;rw[iq];exact⟨h,by simp,λa ha b hb=>by simp at hb;subst hb;exactλe=>hx (e▸ha)⟩
theorem b43{l:List (α×β)}(h:(l.map (·.1)).Nodup)(x:α):((qg l x).map (·.1)).Nodup:=
 h.sublist (List.filter_sublist.map _)
theorem Uf{l:List (α×β)}{x:α}{y:β}{p:α×β}(h:p∈kU l x y):p=(x,y)\/p∈l:=by
 unfold kU at h;split at h
 ·obtain⟨q,hq,rfl⟩:=bg.1 h;split
  ·exact .inl rfl
  ·exact .inr hq
 ·rcases aU.1 h with h|h
  ·exact .inr h
  ·exact .inl (by simpa using h)
theorem c0F{l:List (α×β)}{x:α}{p:α×β}(h:p∈qg l x):p∈l:=(iR.1 h).1
end pure
theorem Vo{γ δ:Type}(f:γ->δ)(l:List γ)(j:Nat):(l.eraseIdx j).map f=(l.map f).eraseIdx j:=by
 induction l generalizing j with
 | nil=>rfl
 | cons x l ih=>cases j with
  | zero=>rfl
  | succ j=>simp[ih]
section heap
variable{α β:Type}{P:Program}{k:TypeId}{kf:α->Value}{vf:β->Value}{w:World}{r:Nat}{l:List (α×β)}
def MapOf(P:Program)(k:TypeId)(kf:α->Value)(vf:β->Value)(w:World)(r:Nat)(l:List (α×β)):Prop:=
 ∃es clock,w.heap[r]?=some (.map es clock)/\es.toList.map (λe=>(e.key,e.val))=l.map (λp=>(kf p.1,vf p.2))/\(∀e∈es.toList,e.born<clock)/\(es.toList.map (·.born)).Nodup/\
  (∀p∈l,∃t,keyOf P k (kf p.1)=some t)/\(l.map (·.1)).Nodup
theorem MapOf.nodup(h:MapOf P k kf vf w r l):(l.map (·.1)).Nodup:=h.choose_spec.choose_spec.2.2.2.2.2
theorem MapOf.lt(h:MapOf P k kf vf w r l):r<w.heap.size:=by
 obtain⟨es,clock,hb,_⟩:=h;rcases aX r w.heap.size with h|h
 ·exact h
 ·rw[aW h] at hb;cases hb
theorem MapOf.block{w':World}(h:MapOf P k kf vf w r l)(hb:w'.heap[r]?=w.heap[r]?):MapOf P k kf vf w' r l:=by
 obtain⟨es,clock,h1,h2⟩:=h;exact⟨es,clock,hb.trans h1,h2⟩
theorem MapOf.off{w':World}{g:Nat}(h:MapOf P k kf vf w r l)(hO:Off g w w')(hg:r≠g):MapOf P k kf vf w' r l:=h.block (hO.block r hg)
theorem MapOf.ext{w':World}(h:MapOf P k kf vf w r l)(hE:Ext w w'):MapOf P k kf vf w' r l:=h.block (hE.block r h.lt)
theorem MapOf.made(w:World):MapOf (α:=α) (β:=β) P k kf vf (w.alloc (.map #[] 0)) w.heap.size []:=
 ⟨#[],0,heap_alloc_new w _,rfl,by simp,by simp,by simp,by simp⟩
theorem Zo{es:Array MapEntry}(h2:es.toList.map (λe=>(e.key,e.val))=l.map (λp=>(kf p.1,vf p.2))){j:Nat}{e:MapEntry}(hj:es.toList[j]?=some e):∃p,l[j]?=some p/\e.key=kf p.1/\e.val=vf p.2:=by
 have h3:(es.toList.map (λe=>(e.key,e.val)))[j]?=some (e.key,e.val):=by rw[aZ,hj];rfl
 rw[h2,aZ] at h3;obtain⟨p,hp,he⟩:=aS.1 h3;injection he with ha hb;exact⟨p,hp,ha.symm,hb.symm⟩
theorem c0G{es:Array MapEntry}(h2:es.toList.map (λe=>(e.key,e.val))=l.map (λp=>(kf p.1,vf p.2))){j:Nat}{p:α×β}(hj:l[j]?=some p):∃e,es.toList[j]?=some e/\e.key=kf p.1/\e.val=vf p.2:=by
 have h3:(l.map (λp=>(kf p.1,vf p.2)))[j]?=some (kf p.1,vf p.2):=by rw[aZ,hj];rfl
 rw[<-h2,aZ] at h3;obtain⟨e,he,hp⟩:=aS.1 h3;injection hp with ha hb;exact⟨e,he,ha,hb⟩
theorem b74{es:Array MapEntry}(h2:es.toList.map (λe=>(e.key,e.val))=l.map (λp=>(kf p.1,vf p.2)))(h5:∀p∈l,∃t,keyOf P k (kf p.1)=some t):∀e∈es.toList,∃t,keyOf P k e.key=some t:=by
 intro e he;obtain⟨j,hj⟩:=gV.1 he;obtain⟨p,hp,hk,_⟩:=Zo h2 hj;rw[hk];exact h5 p (aJ hp)
theorem MapOf.find(h:MapOf P k kf vf w r l)(K:Keyed P k)(hinj:∀x y,kf x=kf y->x=y){x:α}{t:Lit}(hx:keyOf P k (kf x)=some t){es:Array MapEntry}{clock:Nat}(hb:w.heap[r]?=some (.map es clock)):
 ((Instr.findKey k (kf x) es.toList).run P w=.ok none w/\(∀p∈l,p.1≠x))\/∃(j:Nat)(e:MapEntry)(y:β),(Instr.findKey k (kf x) es.toList).run P w=.ok (some (j,vf y)) w/\es.toList[j]?=some e/\e.key=kf x/\e.val=vf y/\l[j]?=some (x,y):=by
 obtain⟨es',clock',hb',h2,h3,h4,h5,h6⟩:=h;rw[hb] at hb';injection hb' with hb';injection hb' with e1 e2;subst e1;subst e2;rcases K.find w hx es.toList (b74 h2 h5) with⟨h,hne⟩|⟨j,e,h,hj,he⟩
 ·refine .inl ⟨h,λp hp e=>?_⟩;obtain⟨j,hj⟩:=gV.1 hp;obtain⟨e0,he0,hk,_⟩:=c0G h2 hj;exact hne e0 (aJ he0) (by rw[hk,e])
 ·obtain⟨p,hp,hk,hv⟩:=Zo h2 hj;have hpx:p.1=x:=hinj _ _ (hk.symm.trans he);subst hpx;exact .inr ⟨j,e,p.2,by rw[h,hv],hj,he,hv,hp⟩
theorem MapOf.look[DecidableEq α](h:MapOf P k kf vf w r l)(K:Keyed P k)(hinj:∀x y,kf x=kf y->x=y){t e:TypeId}(ht:P.underlying t=some (.map k e)){z:Value}(hz:(zeroValue e).run P w=.ok z w){x:α}{lt:Lit}(hx:keyOf P k (kf x)=some lt):
 (Instr.lookup t (.map (some r)) (kf x) false).run P w=.ok (((D7 l x).map vf).getD z) w:=by
 have h0:=h;obtain⟨es,clock,hb,h2,h3,h4,h5,h6⟩:=h0;rcases h.find K hinj hx hb with⟨hf,hne⟩|⟨j,e0,y,hf,hj,he,hv,hp⟩
 ·rw[UL hne];simp[Instr.lookup,run_underlying ht,MapKept.run_getObj_map hb,K.check w es.isEmpty hx,hf,hz]
 ·have:=Af h6 hp;rw[this];simp[Instr.lookup,run_underlying ht,MapKept.run_getObj_map hb,K.check w es.isEmpty hx,hf]
theorem MapOf.Fv[DecidableEq α](h:MapOf P k kf vf w r l)(K:Keyed P k)(hinj:∀x y,kf x=kf y->x=y){t e:TypeId}(ht:P.underlying t=some (.map k e)){z:Value}(hz:(zeroValue e).run P w=.ok z w){x:α}{lt:Lit}(hx:keyOf P k (kf x)=some lt):
 (Instr.lookup t (.map (some r)) (kf x) true).run P w=.ok (.tuple #[((D7 l x).map vf).getD z,.bool (D7 l x).isSome]) w:=by
 have h0:=h;obtain⟨es,clock,hb,h2,h3,h4,h5,h6⟩:=h0;rcases h.find K hinj hx hb with⟨hf,hne⟩|⟨j,e0,y,hf,hj,he,hv,hp⟩
 ·rw[UL hne];simp[Instr.lookup,run_underlying ht,MapKept.run_getObj_map hb,K.check w es.isEmpty hx,hf,hz]
 ·have:=Af h6 hp;rw[this];simp[Instr.lookup,run_underlying ht,MapKept.run_getObj_map hb,K.check w es.isEmpty hx,hf]
theorem TR(w:World)(r:Nat)(o:Obj):Off r w {w with heap:=w.heap.setIfInBounds r o}:=
 ⟨rfl,rfl,rfl,by simp,λj hj=>by simp[dI,bP hj]⟩
theorem Qq{w:World}{r:Nat}(h:r<w.heap.size)(o:Obj):({w with heap:=w.heap.setIfInBounds r o}:World).heap[r]?=some o:=by
 simp[dI,h]
theorem b75{γ δ:Type}[DecidableEq γ]{l:List (γ×δ)}(hn:(l.map (·.1)).Nodup){i j:Nat}{p q:γ×δ}(hi:l[i]?=some p)(hj:l[j]?=some q)(h:p.1=q.1):i=j:=by
 have hi':(l.map (·.1))[i]?=some p.1:=by rw[aZ,hi];rfl
 have hj':(l.map (·.1))[j]?=some p.1:=by rw[aZ,hj,h];rfl
 have h1:=(aT.1 hi').1;exact(List.getElem?_inj h1 hn).1 (hi'.trans hj'.symm)
theorem MapOf.store[DecidableEq α](h:MapOf P k kf vf w r l)(K:Keyed P k)(hinj:∀x y,kf x=kf y->x=y){t e:TypeId}(ht:P.underlying t=some (.map k e)){x:α}{lt:Lit}(hx:keyOf P k (kf x)=some lt)(y:β):
 ∃w',(Instr.mapUpdate t (.map (some r)) (kf x) (vf y)).run P w=.ok () w'/\MapOf P k kf vf w' r (kU l x y)/\Off r w w':=by
 have h0:=h;have hlt:=h.lt;obtain⟨es,clock,hb,h2,h3,h4,h5,h6⟩:=h0;have hkeys:∀p∈kU l x y,∃t,keyOf P k (kf p.1)=some t:=by
  intro p hp;rcases Uf hp with rfl|hp
  ·exact⟨lt,hx⟩
  ·exact h5 p hp
 rcases h.find K hinj hx hb with⟨hf,hne⟩|⟨j,e0,y0,hf,hj,he,hv,hp⟩
 ·refine⟨_,by simp[Instr.mapUpdate,run_underlying ht,MapKept.run_getObj_map hb,K.check w false hx,hf,setObj,Sem.run,hb];rfl,?_,TR w r _⟩;have hmem:x∉l.map (·.1):=by
   intro hm;obtain⟨p,hp,e⟩:=bg.1 hm;exact hne p hp e
  refine⟨_,_,Qq hlt _,?_,?_,?_,hkeys,UK h6 x y⟩
  ·unfold kU;rw[if_neg hmem];simp[h2]
  ·intro e he;rw[wW,aU] at he;rcases he with he|he
   ·have:=h3 e he;omega
   ·simp at he;subst he;simp
  ·rw[wW,bY,iq];refine⟨h4,by simp,λa ha b hb=>?_⟩;obtain⟨e,he,rfl⟩:=bg.1 ha;simp at hb;subst hb;exact Nat.ne_of_lt (h3 e he)
 ·have hje:es[j]?=some e0:=by simpa using hj
  have Nj:(Instr.keyThatStays (((es[j]?).map (·.key)).getD (kf x)) (kf x)).run P w=.ok (kf x) w:=by
   rw[hje];simp only[dH,aP];rw[he];exact K.stays w hx
  refine⟨{w with heap:=w.heap.setIfInBounds r (.map (es.modify j λe=>{e with key:=kf x,val:=vf y}) clock)},?_,?_,TR w r _⟩
  ·simp only[Instr.mapUpdate,Sem.run_bind,run_underlying ht,Result.andThen_ok,MapKept.run_getObj_map hb,K.check w false hx,hf,Nj];simp[setObj,Sem.run,hb]
  ·have hmem:x∈l.map (·.1):=bg.2 ⟨(x,y0),aJ hp,rfl⟩;have hmod:(es.modify j λe=>{e with key:=kf x,val:=vf y}).toList=es.toList.modify j λe=>{e with key:=kf x,val:=vf y}:=Array.toList_modify ..;refine⟨_,clock,Qq hlt _,?_,?_,?_,hkeys,UK h6 x y⟩
   ·unfold kU;rw[if_pos hmem,hmod];apply jR;intro i;rw[aZ,aZ,qB,aZ];by_cases hij:j=i
    ·subst hij;rw[hj,hp];simp
    ·simp only[hij,if_false];have hz:(es.toList.map (λe=>(e.key,e.val)))[i]?=(l.map (λp=>(kf p.1,vf p.2)))[i]?:=by rw[h2]
     rw[aZ,aZ] at hz
     cases hl:l[i]? with
     | none=>rw[hl] at hz;simpa using hz
     | some q=>
      have hq:¬q.1=x:=λe=>hij (b75 h6 hp hl (by simpa using e.symm));rw[hl] at hz;simpa [hq] using hz
   ·intro e he';rw[hmod] at he';obtain⟨i,hi⟩:=gV.1 he';rw[qB] at hi;obtain⟨e1,he1,rfl⟩:=aS.1 hi;have:=h3 e1 (aJ he1);split<;>exact this
   ·rw[hmod];have:(es.toList.modify j λe=>{e with key:=kf x,val:=vf y}).map (·.born)=es.toList.map (·.born):=by
     apply jR;intro i;rw[aZ,qB,aZ]
     cases es.toList[i]? with
     | none=>rfl
     | some e=>simp;split<;>rfl
    rw[this];exact h4
theorem MapOf.drop[DecidableEq α](h:MapOf P k kf vf w r l)(K:Keyed P k)(hinj:∀x y,kf x=kf y->x=y){t e:TypeId}(ht:P.underlying t=some (.map k e)){x:α}{lt:Lit}(hx:keyOf P k (kf x)=some lt)(ty:TypeId):
 ∃w',(Builtin.delete_ #[t,k] ty #[.map (some r),kf x]).run P w=.ok (.tuple #[]) w'/\MapOf P k kf vf w' r (qg l x)/\Off r w w':=by
 have h0:=h;have hlt:=h.lt;obtain⟨es,clock,hb,h2,h3,h4,h5,h6⟩:=h0;rcases h.find K hinj hx hb with⟨hf,hne⟩|⟨j,e0,y0,hf,hj,he,hv,hp⟩
 ·refine⟨_,by simp[Builtin.delete_,run_underlying ht,MapKept.run_getObj_map hb,K.check w es.isEmpty hx,hf,setObj,Sem.run,hb];rfl,?_,TR w r _⟩;have hd:qg l x=l:=List.filter_eq_self.2 (λp hp=>by simpa using hne p hp);rw[hd];exact⟨es,clock,Qq hlt _,h2,h3,h4,h5,h6⟩
 ·refine⟨_,by simp[Builtin.delete_,run_underlying ht,MapKept.run_getObj_map hb,K.check w es.isEmpty hx,hf,setObj,Sem.run,hb];rfl,?_,TR w r _⟩;have hjl:j<es.size:=by
   have:=(aT.1 hj).1;simpa using this
  have her:(es.eraseIdxIfInBounds j).toList=es.toList.eraseIdx j:=by
   rw[Array.eraseIdxIfInBounds,dif_pos hjl,Array.toList_eraseIdx]
  have hd:qg l x=l.eraseIdx j:=by
   unfold qg;apply jR;intro i;clear hf her;have hgen:∀(l:List (α×β))(j:Nat),(l.map (·.1)).Nodup->l[j]?=some (x,y0)->l.filter (λp=>decide (p.1≠x))=l.eraseIdx j:=by
    intro l
    induction l with
    | nil=>intro j _ h;simp at h
    | cons q l ih=>
     intro j hn hj;rw[aB,Di] at hn
     cases j with
     | zero=>
      simp at hj;subst hj;have:l.filter (λp=>decide (p.1≠x))=l:=List.filter_eq_self.2 (λp hp=>by
       have:p.1≠x:=λe=>hn.1 (by rw[<-show p.1=x from e];exact bg.2 ⟨p,hp,rfl⟩);simpa using this)
      simp only[List.eraseIdx_zero,List.tail_cons]
      rw[VH (by simp)];exact this
     | succ j=>
      simp at hj;have hq:q.1≠x:=λe=>hn.1 (by rw[e];exact bg.2 ⟨(x,y0),aJ hj,rfl⟩);rw[VG (by simpa using hq),ih j hn.2 hj];rfl
   rw[hgen l j h6 hp]
  rw[hd];refine⟨_,clock,Qq hlt _,?_,?_,?_,?_,?_⟩
  ·rw[her,Vo,h2,Vo]
  ·intro e he';rw[her] at he';exact h3 e (Rt he')
  ·rw[her,Vo];exact h4.sublist (List.eraseIdx_sublist ..)
  ·intro p hp;exact h5 p (Rt hp)
  ·rw[Vo];exact h6.sublist (List.eraseIdx_sublist ..)
theorem MapOf.len(h:MapOf P k kf vf w r l){t e:TypeId}(ht:P.underlying t=some (.map k e))(ty:TypeId):(Builtin.len_ #[t] ty #[.map (some r)]).run P w=.ok (.int .i64 l.length) w:=by
 obtain⟨es,clock,hb,h2,_⟩:=h;have:es.size=l.length:=by
  have:=congrArg List.length h2;simpa using this
 simp[Builtin.len_,run_underlying ht,MapKept.run_getObj_map hb,this,goInt]
end heap
end
namespace Dk
abbrev Nm:=List UInt8
structure Nd where
 data:List UInt8
 safe:Nat
abbrev Mv:=Nm×Option Nat
structure D where
 now:List (Nm×Nat)
 safe:List (Nm×Nat)
 moves:List (List Mv)
 room:Int
 wait:Nat
 bad:Nat
 ids:List Nat
 node:Nat->Nd
inductive Er where
 | ok
 | num (n:Int)
 | file (n:Int) (name:Nm)
 deriving DecidableEq
def Er.code:Er->Int
 | .ok=>0
 | .num n=>n
 | .file n _=>n
def Er.name:Er->Nm
 | .file _ s=>s
 | _=>[]
def D6(m:List (Nm×Nat))(l:List Mv):List (Nm×Nat):=l.foldl (λm x=>match x.2 with|none=>qg m x.1|some f=>kU m x.1 f) m
theorem ab(m:List (Nm×Nat))(l:List Mv)(x:Mv):D6 m (l++[x])=match x.2 with|none=>qg (D6 m l) x.1|some f=>kU (D6 m l) x.1 f:=by
 simp[D6]
def D.fails(d:D):Bool×D:=if 0<d.wait then(false,{d with wait:=d.wait - 1}) else if 0<d.bad then(true,{d with bad:=d.bad - 1}) else(false,d)
def D.find(d:D)(name:Nm):Option Nat×Er×D:=
 if d.fails.1=true then(none,.file 9 name,d.fails.2) else match D7 d.now name with
  | none=>(none,.file 11 name,d.fails.2)
  | some x=>(some x,.ok,d.fails.2)
def D.mv(d:D)(l:List Mv):D:={d with now:=D6 d.now l,moves:=d.moves++[l]}
def upd(f:Nat->Nd)(x:Nat)(y:Nd):Nat->Nd:=λi=>if i=x then y else f i
def D.setNode(d:D)(x:Nat)(y:Nd):D:={d with node:=upd d.node x y}
def D.create(d:D)(name:Nm)(x:Nat):Er×D:=
 if d.fails.1=true then(.file 9 name,d.fails.2) else if (D7 d.fails.2.now name).isSome=true then(.file 12 name,d.fails.2)
 else(.ok,({d.fails.2 with ids:=d.fails.2.ids++[x],node:=upd d.fails.2.node x ⟨[],0⟩}:D).mv [(name,some x)])
def D.used(d:D):Nat:=(d.now.map λp=>(d.node p.2).data.length).sum
def D.append(d:D)(name:Nm)(b:List UInt8):Er×D:=
 match d.find name with
 | (none,e,d)=>(e,d)
 | (some x,_,d)=>if d.room - d.used<b.length then(.file 10 name,d) else(.ok,d.setNode x {d.node x with data:=(d.node x).data++b})
def D.size(d:D)(name:Nm):Int×Er×D:=
 match d.find name with
 | (none,e,d)=>(0,e,d)
 | (some x,_,d)=>((d.node x).data.length,.ok,d)
def part(l:List UInt8)(at_ n:Int):List UInt8:=(l.drop (min at_.toNat l.length)).take (min n.toNat (l.length - min at_.toNat l.length))
def D.iE(d:D)(name:Nm)(at_ n:Int):List UInt8×Er×D:=
 match d.find name with
 | (none,e,d)=>([],e,d)
 | (some x,_,d)=>(part (d.node x).data at_ n,.ok,d)
def D.sync(d:D)(name:Nm):Er×D:=
 match d.find name with
 | (none,e,d)=>(e,d)
 | (some x,_,d)=>(.ok,d.setNode x {d.node x with safe:=(d.node x).data.length})
def D.rename(d:D)(src dst:Nm):Er×D:=
 match d.find src with
 | (none,e,d)=>(e,d)
 | (some x,_,d)=>(.ok,if src=dst then d else d.mv [(dst,some x),(src,none)])
def D.remove(d:D)(name:Nm):Er×D:=
 match d.find name with
 | (none,e,d)=>(e,d)
 | (some _,_,d)=>(.ok,d.mv [(name,none)])
def D.gK(d:D):Er×D:=
 if d.fails.1=true then(.file 9 [],d.fails.2) else(.ok,{d.fails.2 with safe:=d.moves.foldl D6 d.safe,moves:=[]})
structure D.Wf(d:D):Prop where
 now:∀p∈d.now,p.2∈d.ids
 safe:∀p∈d.safe,p.2∈d.ids
 moves:∀l∈d.moves,∀x∈l,∀f,x.2=some f->f∈d.ids
 part:∀x∈d.ids,(d.node x).safe<=(d.node x).data.length
 ids:d.ids.Nodup
theorem QS{m:List (Nm×Nat)}{l:List Mv}{p:Nm×Nat}(h:p∈D6 m l):p∈m\/∃x∈l,x.2=some p.2:=by
 induction l generalizing m with
 | nil=>exact .inl h
 | cons x l ih=>
  rcases ih (m:=match x.2 with|none=>qg m x.1|some f=>kU m x.1 f) h with h|⟨y,hy,e⟩
  ·cases hx:x.2 with
   | none=>rw[hx] at h;exact .inl (c0F h)
   | some f=>
    rw[hx] at h;rcases Uf h with rfl|h
    ·exact .inr ⟨x,by simp,hx⟩
    ·exact .inl h
  ·exact .inr ⟨y,by simp[hy],e⟩
theorem D.jV(d:D):d.fails.2.now=d.now/\d.fails.2.safe=d.safe/\d.fails.2.moves=d.moves/\d.fails.2.room=d.room/\d.fails.2.ids=d.ids/\d.fails.2.node=d.node:=by
 unfold D.fails;split
 ·exact⟨rfl,rfl,rfl,rfl,rfl,rfl⟩
 ·split<;>exact⟨rfl,rfl,rfl,rfl,rfl,rfl⟩
theorem D.sU{d:D}(h:d.Wf){x:Nat}{y:Nd}(hy:y.safe<=y.data.length):(d.setNode x y).Wf:=by
 refine⟨h.now,h.safe,h.moves,λz hz=>?_,h.ids⟩;show((upd d.node x y) z).safe<=((upd d.node x y) z).data.length;unfold upd;split
 ·exact hy
 ·exact h.part z hz
end Dk
end Go.Proofs.YtgpbhjjajpbeeaaGreatDoor
