/- A part of what the last file proves. -/
import Derived.Test.YtgpbhjjajpbeeaaGreatDoorL16
import Derived.RowKit
set_option linter.all false
set_option maxRecDepth 100000
set_option maxHeartbeats 8000000
namespace Go.To
section
open Go.Conc
open Zn (tp tp_self)
set_option linter.unusedSectionVars false
section
variable[Lo]{P:Program}{fn:FuncId}{Q:Exit->Act->World->(Nat->Prop)->Prop}{w:World}{Sh:Nat->Prop}{ops:Array Oper}{i n d:Nat}{rest:List Nat}{o:Oper}{v:Value}{T:Array Value}{ds:List Deferred}
theorem a4w(hd:o.dst=some d)(hs:T.size=n)(hdn:d<n):∃T',Act.put ⟨T,ds⟩ o.dst v=⟨T',ds⟩/\T'.size=n/\T'[d]?=some v/\∀k,k≠d->T'[k]?=T[k]?:=
 ⟨T.setIfInBounds d v,by rw[hd];rfl,by rw[Array.size_setIfInBounds,hs],Array.getElem?_setIfInBounds_self_of_lt (by omega),fun k hk=>Array.getElem?_setIfInBounds_ne (Ne.symm hk)⟩
theorem c1k(ho:ops[i]?=some o)(hd:o.dst=some d)(hw:Region.wanted o (yielded ops T)=true)(hs:T.size=n)(hdn:d<n)
 (hr:∀w,(execOp (Act.eval ⟨T,ds⟩) o).run P w=.ok (.value v) w/\(execOp (Act.eval ⟨T,ds⟩) o).events P w #[]=#[])
 (h:∀T',T'.size=n->T'[d]?=some v->(∀k,k≠d->T'[k]?=T[k]?)->a1A P fn ops rest Q ⟨T',ds⟩ w Sh):a1A P fn ops (i::rest) Q ⟨T,ds⟩ w Sh:=by
 obtain⟨T',e,a,b,c⟩:=a4w (ds:=ds) (v:=v) hd hs hdn;exact a9o ho hw (fun w=>(hr w).1) (fun w=>(hr w).2) (e▸h T' a b c)
theorem b8k(ho:ops[i]?=some o)(hd:o.dst=some d)(hw:Region.wanted o (yielded ops T)=false)(hs:T.size=n)(hdn:d<n)
 (h:∀T',T'.size=n->T'[d]?=some undef->(∀k,k≠d->T'[k]?=T[k]?)->a1A P fn ops rest Q ⟨T',ds⟩ w Sh):a1A P fn ops (i::rest) Q ⟨T,ds⟩ w Sh:=by
 obtain⟨T',e,a,b,c⟩:=a4w (ds:=ds) (v:=undef) hd hs hdn;exact fun b' k cs Ψ hb hk hc=>To.move rfl (fun _=>stepG_unwanted (a:=⟨T,ds⟩) ho hw) (e▸h T' a b c b' k cs Ψ hb hk hc)
theorem b8l{ad:Addr}(ho:ops[i]?=some o)(hd:o.dst=some d)(hw:Region.wanted o (yielded ops T)=true)(hs:T.size=n)(hdn:d<n)(hlo:ad.block<Lo.n)(hB:ad.block<w.heap.size)
 (hr:∀τ p,(execOp (Act.eval ⟨T,ds⟩) o).run P (tp w τ p)=.ok (.value v) (tp w τ p)/\(execOp (Act.eval ⟨T,ds⟩) o).events P (tp w τ p) #[]=#[⟨.cell ad,false,false⟩])
 (h:∀T',T'.size=n->T'[d]?=some v->(∀k,k≠d->T'[k]?=T[k]?)->a1A P fn ops rest Q ⟨T',ds⟩ w Sh):a1A P fn ops (i::rest) Q ⟨T,ds⟩ w Sh:=by
 obtain⟨T',e,a,b,c⟩:=a4w (ds:=ds) (v:=v) hd hs hdn;intro b' k cs Ψ hb hk hc;refine To.step rfl fun τ p=>⟨_,tp w τ p,_,stepG_value (a:=⟨T,ds⟩) ho hw (by rw[hk];simp) (hr τ p).1,Nat.le_refl _,fun ev he=>?_,To.to_tp (e▸h T' a b c b' k cs Ψ hb hk hc)⟩;have:=mem_seen he;rw[(hr τ p).2] at this;obtain rfl:ev=⟨.cell ad,false,false⟩:=by simpa using this
 exact evL_cell _ _ (fun hs=>by have:=hs.1;omega) hB
theorem b5d{f:FuncId}{args:Array Operand}{ats:Array TypeId}{Post:Value->World->(Nat->Prop)->Prop}(ho:ops[i]?=some o)(hd:o.dst=some d)(hw:Region.wanted o (yielded ops T)=true)(hop:o.op=.call {callee:=.value (.func f),args,argTypes:=ats})(hs:T.size=n)(hdn:d<n)
 (hcall:a6b P f (args.map (Act.eval ⟨T,ds⟩)) w Sh Post)
 (h:∀v w' Sh' T',Post v w' Sh'->T'.size=n->T'[d]?=some v->(∀k,k≠d->T'[k]?=T[k]?)->a1A P fn ops rest Q ⟨T',ds⟩ w' Sh'):a1A P fn ops (i::rest) Q ⟨T,ds⟩ w Sh:=
 b0X ho hw hop hcall fun v w' Sh' hp=>by
  obtain⟨T',e,a,b,c⟩:=a4w (ds:=ds) (v:=v) hd hs hdn;exact e▸h v w' Sh' T' hp a b c
theorem b8m{j t:Nat}{oj:Oper}{x y:Bool}(hg:o.guard=some (j,x))(hj:ops[j]?=some oj)(hd:oj.dst=some t)(ht:T[t]?=some (.bool y)):Region.wanted o (yielded ops T)=(y==x):=by
 unfold Region.wanted yielded;rw[hg];simp only[hj,Option.bind_some,hd,ht];cases x<;>cases y<;>rfl
variable{Z:Zn.Zone}{X Y:Tmp->Prop}
theorem Iv.keep{T':Array Value}(hI:Iv Z Sh X ⟨T,ds⟩ w)(h:∀k,X k->T'[k]?=T[k]?\/∃v,T'[k]?=some v/\Zn.VP (Zn.Zf Z Sh w.heap.size) v):Iv Z Sh X ⟨T',ds⟩ w:=by
 refine⟨fun t ht=>?_,hI.defers,hI.W⟩;show Zn.VP _ (T'.getD t undef);rw[Array.getD_eq_getD_getElem?];rcases h t ht with h|⟨v,h,hv⟩
 ·rw[h,<-Array.getD_eq_getD_getElem?];exact hI.tmps t ht
 ·rw[h];exact hv
def BodyW(P:Program)(fn:Func)(args:Array Value)(w:World)(R:Ending->World->Prop):Prop:=∀c,fn.body=some c->c.wp P (bodyPost P fn R) ⟨args++Array.replicate (fn.ntmps - args.size) undef,[]⟩ w
omit[Lo] in
theorem bodyW_of{fn:Func}{c:Code}{args:Array Value}{R:Ending->World->Prop}(hb:fn.body=some c)(h:c.wp P (bodyPost P fn R) ⟨args++Array.replicate (fn.ntmps - args.size) undef,[]⟩ w):BodyW P fn args w R:=fun c' hc'=>by
 obtain rfl:c=c':=Option.some.inj (hb.symm.trans hc');exact h
theorem c1l{args:Array Value}{k:Nat}(hW:Zn.WPs Z Sh w)(ha:∀v∈args,Zn.VP (Zn.Zf Z Sh w.heap.size) v):Iv Z Sh Zn.Full ⟨args++Array.replicate k undef,[]⟩ w:=by
 refine⟨fun t _=>?_,fun d hd=>(by cases hd),hW⟩;show Zn.VP _ ((args++Array.replicate k undef).getD t undef);rw[Array.getD_eq_getD_getElem?,Array.getElem?_append];split
 ·rename_i h;rw[Array.getElem?_eq_getElem h];exact ha _ (Array.getElem_mem h)
 ·rw[Array.getElem?_replicate];split<;>exact Zn.vp_undef
theorem a94{f:FuncId}{fn:Func}{c:Code}{args:Array Value}{Q0:World->Value->World->Prop}{Post:Value->World->(Nat->Prop)->Prop}(hP:∀Z',Zn.Le Z Z'->Zn.PQK Z' P)(hf:P.funcs[f]?=some fn)(hn:(fn.name== "runtime.NumGoroutine")=false)(hb:fn.body=some c)(hc:Zn.CodeP Z c)
 (hW:Zn.WPs Z Sh w)(ha:∀v∈args,Zn.VP (Zn.Zf Z Sh w.heap.size) v)(h:∀τ p,BodyW P fn args (tp w τ p) fun e w'=>∃v,e=.returned v/\Q0 (tp w τ p) v w')
 (hr:∀(Z':Zn.Zone)(tmps:Array Value),(∀t,Zn.VP Z' (tmps.getD t undef))->∃v,ResultsC P fn tmps v/\Zn.VP Z' v)
 (hQ:∀v w' τ p τ' p',Q0 (tp w τ p) v (tp w' τ' p')->Zn.WPs Z Sh w'->Zn.VP (Zn.Zf Z Sh w'.heap.size) v->w.heap.size<=w'.heap.size->Post v w' Sh):a6b P f args w Sh Post:=by
 refine⟨fn,c,hf,hn,hb,wpT_lone (X:=Zn.Full) (Q0:=fun e a' w'=>∃τ p,bodyPost P fn (fun e w'=>∃v,e=.returned v/\Q0 (tp w τ p) v w') e a' w') hP (c1l hW ha) hc (Zn.codeU_full c) (fun τ p=>Code.wp_mono (fun _ _ _ q=>⟨τ,p,q⟩) (h τ p c hb)) ?_⟩;rintro e a' w' τ' p' ⟨τ,p,q⟩;have key:(a'.defers=[]/\∃v,(results fn a'.tmps).run P (tp w' τ' p')=.ok v (tp w' τ' p')/\∃u,Ending.returned v=.returned u/\Q0 (tp w τ p) u (tp w' τ' p'))->Iv Z Sh Zn.Full a' w'->w.heap.size<=w'.heap.size->a'.defers=[]/\∃v,ResultsC P fn a'.tmps v/\Post v w' Sh:=by
  rintro⟨hd,v,hv,u,e,hq⟩ hI hz;injection e with e;subst e;obtain⟨v',h1,h2⟩:=hr (Zn.Zf Z Sh w'.heap.size) a'.tmps fun t=>hI.tmps t trivial;have e:=(h1 (tp w' τ' p')).1;rw[hv] at e;injection e with e;subst e;exact⟨hd,v,h1,hQ _ _ _ _ _ _ hq hI.W h2 hz⟩
 cases e with
 | normal=>exact⟨.inl rfl,key q⟩
 | ret=>exact⟨.inr rfl,key q⟩
 | panic ch=>obtain⟨_,v,h,_⟩:=q;cases h
 | outgrown=>obtain⟨v,h,_⟩:=q;cases h
 | exit id=>exact q.elim
 | goto l=>exact q.elim
end
end
end Go.To
namespace Go.Proofs.YtgpbhjjajpbeeaaGreatDoor
section
open Go.RowKit Go.Lib Go.Maps Dk
structure Like(D E:Dk.D):Prop where
 now:E.now=D.now
 ids:E.ids=D.ids
 wait:E.wait=D.wait
 bad:E.bad=D.bad
 len:∀x,(E.node x).data.length=(D.node x).data.length
theorem Like.refl(D:Dk.D):Like D D:=⟨rfl,rfl,rfl,rfl,fun _=>rfl⟩
theorem Like.trans{A B C:Dk.D}(h:Like A B)(k:Like B C):Like A C:=⟨k.now.trans h.now,k.ids.trans h.ids,k.wait.trans h.wait,k.bad.trans h.bad,fun x=>(k.len x).trans (h.len x)⟩
theorem Like.calm{A B:Dk.D}(h:Like A B)(hc:A.Calm):B.Calm:=by
 unfold D.Calm at *;rw[h.wait,h.bad];exact hc
theorem Like.fit{A B:Dk.D}(h:Like A B)(hf:A.Fit):B.Fit:=⟨fun x hx=>by rw[h.len];exact hf.data x (h.ids▸hx),by rw[h.now];exact hf.len,by rw[h.now];exact hf.names⟩
def b4d(F:Nat->Prop)(a:Nat)(D:Dk.D)(w:World)(e:Ending)(w':World):Prop:=e=.returned (.tuple #[])/\∃E,y9 w' F a E/\Like D E/\Chg F F w w'
theorem b6W(F:Nat->Prop)(a:Nat)(D:Dk.D)(name:Nm)(bit:Int)(w:World)(h:y9 w F a D)(hn:name.length<=maxLen)(hbit:0<=bit/\bit<=18446744073709551615)(hds:∀x∈D.ids,(D.node x).data.length<=1099511627776):
 To.BodyW Tryz.prog Tryz.f21 #[y8 a,strV name,.int .u64 bit] w (b4d F a D w):=by
 have hnone:b4d F a D w (.returned (.tuple #[])) w:=⟨rfl,D,h,Like.refl D,Chg.refl F w⟩;obtain⟨m1,m2,mv,gs,dv,hr⟩:=h;have hlk:=hr.now.look a2a a19 Tryz.underlying171 (a8A w) (a4Z hn);have c0:=hr.box.cell 0;have HR:=Lib.hid hr;have HN:=Lib.hid hnone;have HDS:=Lib.hid hds
 cases hx:D9 D.now name with
 | none=>
  rw[hx] at hlk;have hlk1:(Instr.lookup 171 (.map (some m1)) (.string ⟨name.toArray⟩) false).run Tryz.prog w=.ok (.pointer none) w:=hlk;clear hlk hr hnone hds hx;unfold y8 strV;refine To.bodyW_of rfl ?_;simp only[Tryz.ntmps21,List.size_toArray,List.length_cons,List.length_nil,Nat.reduceAdd,Nat.reduceSub,Array.replicate_succ,Array.replicate_zero,List.push_toArray,List.append_toArray,List.nil_append,List.cons_append];go_wp2_with fail
  exact bodyPost_ret (v:=.tuple #[]) (by simp[results,Tryz.results21]) rfl HN.out
 | some x=>
  rw[hx] at hlk;have hlk1:(Instr.lookup 171 (.map (some m1)) (.string ⟨name.toArray⟩) false).run Tryz.prog w=.ok (.pointer (some ⟨x,0,none⟩)) w:=hlk;have hxm:=hr.wf.now _ (a0y hx);obtain⟨hb,ho⟩:=hr.file x hxm;obtain⟨da,dc,hdv⟩:=ownsRow_form ho;have hdl:=hds x hxm;rw[hdv] at hb ho;have x0:=hb.cell 0;have HX:=Lib.hid hxm;have HB:=Lib.hid hb;have HO:=Lib.hid ho;have HDV:=Lib.hid hdv;clear hlk hr hnone hds hx hxm hb ho hdv;obtain⟨L,hL⟩:∃L,(D.node x).data=L:=⟨_,rfl⟩;rw[hL] at x0 hdl;have HL:=Lib.hid hL;clear hL;unfold y8 strV;by_cases hz:L.length=0
  ·have hz2:¬(0:Int)<(L.length:Int):=by omega
   refine To.bodyW_of rfl ?_;simp only[Tryz.ntmps21,List.size_toArray,List.length_cons,List.length_nil,Nat.reduceAdd,Nat.reduceSub,Array.replicate_succ,Array.replicate_zero,List.push_toArray,List.append_toArray,List.nil_append,List.cons_append];go_wp2_with fail
   exact bodyPost_ret (v:=.tuple #[]) (by simp[results,Tryz.results21]) rfl HN.out
  ·have hz2:(0:Int)<(L.length:Int):=by omega
   have hrow:w.ownsRow 0 5 1 (.slice da L.length dc) L.length (L.map byteV):=by
    have:=HO.out;unfold OwnB at this;rw[HL.out] at this;exact this
   obtain⟨g,rfl⟩:∃g,da=some ⟨g,0,none⟩:=by
    rcases hrow.2 with⟨e,h0⟩|⟨g,cap,cur,e,_⟩
    ·omega
    ·injection e with e1;exact⟨g,e1⟩
   have hb0:0<=bit%(8*(L.length:Int)):=Int.emod_nonneg _ (by omega);have hb1:bit%(8*(L.length:Int))<8*(L.length:Int):=Int.emod_lt_of_pos _ (by omega);obtain⟨B,hB⟩:∃B,bit%(8*(L.length:Int))=B:=⟨_,rfl⟩;rw[hB] at hb0 hb1;obtain⟨i,hi⟩:∃i:Nat,(i:Int)=B/8:=⟨(B/8).toNat,by omega⟩;have hil:i<L.length:=by omega
   have hwr:IntKind.u64.wrap (B.tdiv 8)=(i:Int):=by
    rw[Int.tdiv_eq_ediv_of_nonneg hb0,IntKind.wrap_u64];omega
   have hili:(i:Int)<(L.length:Int):=by omega
   have hc:=hrow.cellAt i (by omega);have hfz:=hrow.frozenAt i;rw[List.getElem?_map,List.getElem?_eq_getElem hil] at hc;obtain⟨c,hcc⟩:∃c,L[i]=c:=⟨_,rfl⟩;have hci:w.cell? ⟨g,i,none⟩=some (byteV L[i]):=hc;rw[hcc] at hci;have hti:(B/8).toNat=i:=by omega
   have hcap:(L.length:Int)<=(dc:Int):=by
    rcases hrow.2 with⟨e,h0⟩|⟨g',cap,cur,e,_,_,h1,_⟩
    ·omega
    ·injection e with e1 e2 e3;omega
   unfold byteV at hci;have HROW:=Lib.hid hrow;have HIL:=Lib.hid hil;clear hrow hc hcc hil;have hfin:∀z,z=bits BinOp.xor IntKind.u8 (c.toNat:Int) (2^(B%8).toNat%256)->b4d F a D w (.returned (.tuple #[])) (w.setCell ⟨g,i,none⟩ (.int .u8 z)):=by
    intro z hz;obtain⟨q,rfl⟩:∃q:UInt8,z=(q.toNat:Int):=by
     have e2:((2:Int)^(B%8).toNat%256)=((2^(B%8).toNat%256:Nat):Int):=by simp
     rw[hz,e2,u8_xor_nat _ _ c.toNat_lt (Nat.mod_lt _ (by decide))];have hlt:c.toNat ^^^ (2^(B%8).toNat%256)<256:=Nat.xor_lt_two_pow (n:=8) c.toNat_lt (Nat.mod_lt _ (by decide));exact⟨UInt8.ofNat _,by rw[UInt8.toNat_ofNat_of_lt' hlt]⟩
    refine⟨rfl,D.setNode x ⟨L.set i q,(D.node x).safe⟩,?_,?_,?_⟩
    ·have hst:=(HROW.out.stored i (byteV q)).1;have hdvb:(dv x).ownBlock=some g:=by rw[HDV.out];rfl
     have hne:x≠g:=fun e=>G5 HO.out HB.out (by decide) (by rw[e];rfl);have hoth:∀b,b≠g->(w.setCell ⟨g,i,none⟩ (byteV q)).heap[b]?=w.heap[b]?:=fun b hb=>Below.heap_setCell _ _ _ _ hb;refine⟨m1,m2,mv,gs,_,HR.out.node' (w':=w.setCell ⟨g,i,none⟩ (byteV q)) HX.out (fun b _ _ h3=>hoth b fun e=>h3 (by rw[e,hdvb])) (by simp) (v:=dv x) (n:=(D.node x).safe) (l:=L.set i q) ?_ ?_ (fun b hb=>.inl hb) ?_ ?_ (fun b=>⟨.inl,fun h=>h.elim id fun h=>by have:=h.2;simp at this;omega⟩)⟩
     ·rw[HDV.out];exact(hoth x hne).trans HB.out
     ·rw[HDV.out,HL.out];unfold OwnB;rw[List.map_set,List.length_set];exact hst
     ·have:=HR.out.wf.part x HX.out;rw[HL.out] at this;rw[List.length_set];exact this
     ·intro g' cs e fr hg' hh y hy;rw[hdvb] at hg';injection hg' with hg';subst hg';rcases HROW.out.2 with⟨e0,_⟩|⟨g2,cap,cur,e0,_,hgc,_⟩
      ·cases e0
      ·injection e0 with e1 e2 e3;injection e1 with e1;injection e1 with e1;subst e1;rw[heap_setCell_same w g i cur _ (byteV q) hgc] at hh;injection hh with hh;injection hh with h1 h2 h3;subst h1;rcases Array.mem_or_eq_of_mem_setIfInBounds hy with h|h
       ·exact HR.out.flat x HX.out g cur _ _ hdvb hgc y h
       ·exact⟨_,h⟩
    ·refine⟨rfl,rfl,rfl,rfl,fun y=>?_⟩;show((upd D.node x _) y).data.length=_;unfold upd;split
     ·rename_i e;subst e;rw[HL.out];exact List.length_set ..
     ·rfl
    ·have hF:F g:=(HR.out.fx x HX.out).2 g (by rw[HDV.out];rfl);exact⟨rfl,rfl,rfl,by simp,fun b _ hb=>Below.heap_setCell _ _ _ _ fun e=>hb (e▸hF),fun _ h=>.inl h⟩
   have HFIN:=Lib.hid hfin;clear hfin;refine To.bodyW_of rfl ?_;simp only[Tryz.ntmps21,List.size_toArray,List.length_cons,List.length_nil,Nat.reduceAdd,Nat.reduceSub,Array.replicate_succ,Array.replicate_zero,List.push_toArray,List.append_toArray,List.nil_append,List.cons_append];go_wp2_with fail
   go_end0
   exact HFIN.out _ rfl
end
end Go.Proofs.YtgpbhjjajpbeeaaGreatDoor
namespace Go.To
section
open Go.Conc
open Zn (tp tp_self)
set_option linter.unusedSectionVars false
def a5n(ops:Array Oper)(i d:Nat)(op:Op)(g:Option (Nat×Bool)):Prop:=(ops[i]?).map (fun o=>(o.dst,o.op,o.guard))=some (some d,op,g)
section
variable[Lo]{P:Program}{fn:FuncId}{Q:Exit->Act->World->(Nat->Prop)->Prop}{w:World}{Sh:Nat->Prop}{ops:Array Oper}{i n d:Nat}{rest:List Nat}{v:Value}{T:Array Value}{ds:List Deferred}{op:Op}{g:Option (Nat×Bool)}{ρ:Operand->Value}{x y:Operand}
omit[Lo] in
theorem a5n.of(h:(ops[i]?).map (fun o=>(o.dst,o.op,o.guard))=some (some d,op,g)):a5n ops i d op g:=h
omit[Lo] in
theorem a5n.get(h:a5n ops i d op g):∃o,ops[i]?=some o/\o.dst=some d/\o.op=op/\o.guard=g:=by
 unfold a5n at h;obtain⟨o,h1,h2⟩:=Option.map_eq_some_iff.1 h;injection h2 with h2 h3;injection h3 with h3 h4;exact⟨o,h1,h2,h3,h4⟩
def Wn(ops:Array Oper)(T:Array Value)(g:Option (Nat×Bool))(b:Bool):Prop:=∀o:Oper,o.guard=g->Region.wanted o (yielded ops T)=b
theorem wn0:Wn ops T none true:=fun o h=>by unfold Region.wanted;rw[h]
theorem wng{j t:Nat}{opj:Op}{gj:Option (Nat×Bool)}{b c:Bool}(hj:a5n ops j t opj gj)(ht:T[t]?=some (.bool c)):Wn ops T (some (j,b)) (c==b):=fun o h=>by
 obtain⟨oj,h1,h2,_⟩:=hj.get;exact b8m h h1 h2 ht
def Runs(P:Program)(ρ:Operand->Value)(op:Op)(v:Value):Prop:=∀o:Oper,o.op=op->∀w,(execOp ρ o).run P w=.ok (.value v) w/\(execOp ρ o).events P w #[]=#[]
theorem O7(h:a5n ops i d op g)(hw:Wn ops T g true)(hs:T.size=n)(hdn:d<n)(hr:Runs P (Act.eval ⟨T,ds⟩) op v)
 (k:∀T',T'.size=n->T'[d]?=some v->(∀k,k≠d->T'[k]?=T[k]?)->a1A P fn ops rest Q ⟨T',ds⟩ w Sh):a1A P fn ops (i::rest) Q ⟨T,ds⟩ w Sh:=by
 obtain⟨o,h1,h2,h3,h4⟩:=h.get;exact c1k h1 h2 (hw o h4) hs hdn (hr o h3) k
theorem b3A(h:a5n ops i d op g)(hw:Wn ops T g false)(hs:T.size=n)(hdn:d<n)
 (k:∀T',T'.size=n->T'[d]?=some undef->(∀k,k≠d->T'[k]?=T[k]?)->a1A P fn ops rest Q ⟨T',ds⟩ w Sh):a1A P fn ops (i::rest) Q ⟨T,ds⟩ w Sh:=by
 obtain⟨o,h1,h2,h3,h4⟩:=h.get;exact b8k h1 h2 (hw o h4) hs hdn k
theorem b8n{ad:Addr}{t:TypeId}(h:a5n ops i d (.load t x) none)(hs:T.size=n)(hdn:d<n)(hx:Act.eval ⟨T,ds⟩ x=.pointer (some ad))(hlo:ad.block<Lo.n)(hc:w.cell? ad=some v)
 (hr:∀o:Oper,o.op=.load t x->∀w,w.cell? ad=some v->(execOp (Act.eval ⟨T,ds⟩) o).run P w=.ok (.value v) w/\(execOp (Act.eval ⟨T,ds⟩) o).events P w #[]=#[⟨.cell ad,false,false⟩])
 (k:∀T',T'.size=n->T'[d]?=some v->(∀k,k≠d->T'[k]?=T[k]?)->a1A P fn ops rest Q ⟨T',ds⟩ w Sh):a1A P fn ops (i::rest) Q ⟨T,ds⟩ w Sh:=by
 obtain⟨o,h1,h2,h3,h4⟩:=h.get;exact b8l h1 h2 (wn0 o h4) hs hdn hlo (World.block_lt_of_cell? w _ hc) (fun τ p=>hr o h3 (tp w τ p) hc) k
theorem a7A{f:FuncId}{args:Array Operand}{ats:Array TypeId}{Post:Value->World->(Nat->Prop)->Prop}(h:a5n ops i d (.call {callee:=.value (.func f),args,argTypes:=ats}) none)(hs:T.size=n)(hdn:d<n)
 (hcall:a6b P f (args.map (Act.eval ⟨T,ds⟩)) w Sh Post)
 (k:∀v w' Sh' T',Post v w' Sh'->T'.size=n->T'[d]?=some v->(∀k,k≠d->T'[k]?=T[k]?)->a1A P fn ops rest Q ⟨T',ds⟩ w' Sh'):a1A P fn ops (i::rest) Q ⟨T,ds⟩ w Sh:=by
 obtain⟨o,h1,h2,h3,h4⟩:=h.get;exact b5d h1 h2 (wn0 o h4) h3 hs hdn hcall k
theorem a0a(h:ρ x=v):Runs P ρ (.move x) v:=fun o ho w=>by constructor<;>simp[go_sem,execOp,ho,h]
theorem a2A(h:ρ x=v):Runs P ρ (.assign x) v:=fun o ho w=>by constructor<;>simp[go_sem,execOp,ho,h]
theorem b5e(h:ρ x=.bool true)(z:Operand)(hy:ρ y=v):Runs P ρ (.pick x y z) v:=fun o ho w=>by constructor<;>simp[go_sem,execOp,ho,h,hy]
theorem b5f(h:ρ x=.bool false)(z:Operand)(hy:ρ y=v):Runs P ρ (.pick x z y) v:=fun o ho w=>by constructor<;>simp[go_sem,execOp,ho,h,hy]
theorem G9{k:Nat}(h:T[k]?=some v):Act.eval ⟨T,ds⟩ (.tmp k)=v:=by
 show T.getD k undef=v;rw[Array.getD_eq_getD_getElem?,h];rfl
end
end
end Go.To
namespace Go.Nm
section
open Zn (MarkOK HaltOK)
def Nf(P:Program){α:Type}(Q:α->Prop):Sem α->Prop
 | .halt h=>HaltOK h
 | .pure a=>Q a
 | .load _ _ k=>∀v,Nf P Q (k v)
 | .store _ _ _ k=>Nf P Q k
 | .new _ k=>∀r,Nf P Q (k r)
 | .shape _ k=>∀s,Nf P Q (k s)
 | .freeze _ _ k=>Nf P Q k
 | .frozen _ k=>∀b,Nf P Q (k b)
 | .getObj _ k=>∀o,Nf P Q (k o)
 | .setObj _ _ k=>Nf P Q k
 | .choose _ k=>∀n,Nf P Q (k n)
 | .sys c k=>c=.env/\∀r,Nf P Q (k r)
 | .program k=>Nf P Q (k P)
 | .mark m k=>MarkOK m/\Nf P Q k
abbrev Mf(P:Program){α:Type}(s:Sem α):Prop:=Nf P (fun _=>True) s
section
variable{P:Program}
theorem Nf.bind{α β:Type}{R:α->Prop}{Q:β->Prop}{s:Sem α}{f:α->Sem β}(h:Nf P R s)(hf:∀a,R a->Nf P Q (f a)):Nf P Q (s >>= f):=by
 show Nf P Q (s.bind f)
 induction s with
 | halt _=>exact h
 | pure a=>exact hf _ h
 | load m a k ih=>exact fun v=>ih v (h v)
 | store m a v k ih=>exact ih h
 | new o k ih=>exact fun r=>ih r (h r)
 | shape r k ih=>exact fun s=>ih s (h s)
 | freeze a n k ih=>exact ih h
 | frozen a k ih=>exact fun b=>ih b (h b)
 | getObj r k ih=>exact fun o=>ih o (h o)
 | setObj r o k ih=>exact ih h
 | choose q k ih=>exact fun n=>ih n (h n)
 | sys c k ih=>exact⟨h.1,fun r=>ih r (h.2 r)⟩
 | program k ih=>exact ih P h
 | mark m k ih=>exact⟨h.1,ih h.2⟩
theorem l9{α β:Type}{s:Sem α}{f:α->Sem β}(h:Mf P s)(hf:∀a,Mf P (f a)):Mf P (s >>= f):=Nf.bind h fun a _=>hf a
theorem o5{α:Type}(a:α):Mf P (Pure.pure a:Sem α):=trivial
theorem y7{α:Type}(x:String):Mf P (stuck x:Sem α):=trivial
theorem Q7{α:Type}(x:Unsupported)(h:HaltOK (.unsupported x)):Mf P (unsupported x:Sem α):=h
theorem a5f{α:Type}(x:Value):Mf P (goPanic x:Sem α):=trivial
theorem c4P{α β:Type}(f:α->β){s:Sem α}(h:Mf P s):Mf P (Functor.map f s):=by rw[map_eq_pure_bind];exact Nf.bind h fun _ _=>trivial
theorem I7{α:Type}{f:Program->Sem α}(h:Mf P (f P)):Mf P (program >>= f):=h
theorem c0u:Mf P (sys .env):=⟨rfl,fun _=>trivial⟩
theorem b0J:Mf P (mark .noRoom):=⟨trivial,trivial⟩
theorem F9{α:Type}(c:Prop)[Decidable c]{s t:Sem α}(h:Mf P s)(k:Mf P t):Mf P (if c then s else t):=by split<;>assumption
theorem b23{α β:Type}(l:List α){b:β}{f:α->β->Sem (ForInStep β)}(h:∀x b,Mf P (f x b)):Mf P (forIn l b f):=by
 induction l generalizing b with
 | nil=>exact trivial
 | cons x l ih=>
  rw[List.forIn_cons];refine l9 (h x b) fun s=>?_
  cases s with
  | done b=>exact trivial
  | yield b=>exact ih
theorem a0T{α β:Type}(l:Array α){b:β}{f:α->β->Sem (ForInStep β)}(h:∀x b,Mf P (f x b)):Mf P (forIn l b f):=by
 rw[<-Array.forIn_toList];exact b23 _ h
theorem a1V{β:Type}(r:Std.Legacy.Range){b:β}{f:Nat->β->Sem (ForInStep β)}(h:∀x b,Mf P (f x b)):Mf P (forIn r b f):=by
 rw[Std.Legacy.Range.forIn_eq_forIn_range'];exact b23 _ h
theorem c0w{α β:Type}(f:α->Sem β)(h:∀x,Mf P (f x)):∀l:List α,Mf P (l.mapM f):=by
 intro l
 induction l with
 | nil=>exact trivial
 | cons x l ih=>
  rw[List.mapM_cons];exact l9 (h x) fun y=>l9 ih fun ys=>trivial
theorem b59{α β:Type}(l:Array α)(f:α->Sem β)(h:∀x,Mf P (f x)):Mf P (l.mapM f):=by
 rw[Array.mapM_eq_mapM_toList];show Mf P (Functor.map List.toArray _);rw[map_eq_pure_bind];exact l9 (c0w f h _) fun ys=>trivial
theorem b0K{α β:Type}(f:β->α->Sem β)(h:∀x y,Mf P (f x y)):∀(l:List α)(b:β),Mf P (l.foldlM f b):=by
 intro l
 induction l with
 | nil=>exact fun _=>trivial
 | cons x l ih=>
  intro b;rw[List.foldlM_cons];exact l9 (h b x) fun y=>ih y
end
end
section
open Zn (MarkOK)
open Go.Extern
set_option linter.unusedVariables false
section
variable{P:Program}
theorem b6b{a:Addr}:Mf P (load a):=fun _=>trivial
theorem b24{a:Addr}{v:Value}:Mf P (store a v):=trivial
theorem a2V{o:Obj}:Mf P (newObj o):=fun _=>trivial
theorem Z8(r:Nat):Mf P (shape r):=fun _=>trivial
theorem b7R(a:Addr)(n:Nat):Mf P (freeze a n):=trivial
theorem a6E(a:Addr):Mf P (frozen a):=fun _=>trivial
theorem Z9{r:Nat}:Mf P (getObj r):=fun _=>trivial
theorem a6F{r:Nat}{o:Obj}:Mf P (setObj r o):=trivial
theorem O4(q:Question):Mf P (choose q):=fun _=>trivial
theorem a5h(n:Nat):Mf P (askRoom n):=by
 try unfold askRoom
 repeat' first|assumption|with_reducible (first|exact o5 _|exact b0J|refine F9 _ ?_ ?_)|split|dsimp only|exact trivial
theorem o8(t:TypeId):Mf P (underlying t):=by
 try unfold underlying
 repeat' first|assumption|with_reducible (first|exact y7 _|exact o5 _|refine I7 ?_)|split|dsimp only|exact trivial
theorem J4(t:TypeId):Mf P (typeInfo t):=by
 try unfold typeInfo
 repeat' first|assumption|with_reducible (first|exact y7 _|exact o5 _|refine I7 ?_)|split|dsimp only|exact trivial
theorem L9(t:TypeId):Mf P (sizeOf t):=by
 try unfold sizeOf
 repeat' first|assumption|with_reducible (first|exact o5 _|exact J4 _|refine l9 ?_ fun _=>?_)|split|dsimp only|exact trivial
theorem b26(t:TypeId):Mf P (isAgg t):=by
 try unfold isAgg
 repeat' first|assumption|with_reducible (first|exact o5 _|exact o8 _|refine l9 ?_ fun _=>?_)|split|dsimp only|exact trivial
theorem a2e(t:TypeId):Mf P (typeStr t):=by
 try unfold typeStr
 repeat' first|assumption|with_reducible (first|refine Q7 _ ?_|exact o5 _|exact J4 _|refine l9 ?_ fun _=>?_|refine F9 _ ?_ ?_)|split|dsimp only|exact trivial
theorem a6G(t:TypeId):Mf P (elemOf t):=by
 try unfold elemOf
 repeat' first|assumption|with_reducible (first|exact y7 _|exact o5 _|exact o8 _|refine l9 ?_ fun _=>?_)|split|dsimp only|exact trivial
theorem U7(t:TypeId):Mf P (zeroValue t):=by
 try unfold zeroValue
 repeat' first|assumption|with_reducible (first|refine Q7 _ ?_|exact o5 _|exact J4 _|refine l9 ?_ fun _=>?_)|split|dsimp only|exact trivial
theorem a6H{a:Addr}(n:Nat):∀(i:Nat)(acc:Array Value),Mf P (loadCellsFrom a i n acc):=by
 induction n with
 | zero=>exact fun _ _=>trivial
 | succ n ih=>exact fun i acc=>l9 (b6b) fun v=>ih _ _
theorem a1L{a:Addr}(n:Nat):Mf P (loadCells a n):=by
 try unfold loadCells
 repeat' first|assumption|with_reducible exact a6H _ _ _|split|dsimp only|exact trivial
theorem a1q{a:Addr}:∀(l:List Value)(i:Nat), Mf P (storeCells a l i):=by
 intro l
 induction l with
 | nil=>
  intros;try unfold storeCells
  repeat' first|assumption|with_reducible (first|exact o5 _|exact b24|refine l9 ?_ fun _=>?_)|split|dsimp only|exact trivial
 | cons x l ih=>
  intros;try unfold storeCells
  repeat' first|assumption|with_reducible (first|exact o5 _|exact ih _|exact b24|refine l9 ?_ fun _=>?_)|split|dsimp only|exact trivial
theorem a0P(t:TypeId){a:Addr}:Mf P (loadVar t a):=by
 try unfold loadVar
 repeat' first|assumption|with_reducible (first|exact o5 _|exact b6b|exact L9 _|exact b26 _|exact a1L _|refine l9 ?_ fun _=>?_|refine F9 _ ?_ ?_)|split|dsimp only|exact trivial
theorem a7m(t:TypeId){a:Addr}{v:Value}:Mf P (storeVar t a v):=by
 try unfold storeVar
 repeat' first|assumption|with_reducible (first|exact y7 _|exact L9 _|exact a1q _ _|refine l9 ?_ fun _=>?_|refine F9 _ ?_ ?_)|split|dsimp only|exact trivial
theorem a1h(t:TypeId){c:Array Value}:Mf P (newRow t c):=by
 try unfold newRow
 repeat' first|assumption|with_reducible (first|exact o5 _|exact a2V|refine l9 ?_ fun _=>?_)|split|dsimp only|exact trivial
theorem a1W(t:TypeId){v:Value}:Mf P (newVar t v):=by
 try unfold newVar
 repeat' first|assumption|with_reducible exact a1h _|split|dsimp only|exact trivial
theorem a0L(t:TypeId){c:Array Value}(off:Nat):Mf P (part t c off):=by
 try unfold part
 repeat' first|assumption|with_reducible (first|exact y7 _|exact o5 _|exact L9 _|exact b26 _|refine l9 ?_ fun _=>?_|refine F9 _ ?_ ?_)|split|dsimp only|exact trivial
theorem G6{α:Type}(e:RuntimeError):Mf P (runtimePanic e:Sem α):=by
 try unfold runtimePanic
 repeat' first|assumption|with_reducible (first|exact a5f _|exact a6G _|exact a1W _|refine I7 ?_|refine l9 ?_ fun _=>?_)|split|dsimp only|exact trivial
theorem a2f{α:Type}(k:IntKind)(x y:Int)(c:BoundsCode):Mf P (boundsPanic k x y c:Sem α):=by
 try unfold boundsPanic
 repeat' first|assumption|with_reducible (first|exact o5 _|exact O4 _|exact G6 _|refine l9 ?_ fun _=>?_|refine c4P _ ?_|refine F9 _ ?_ ?_)|split|dsimp only|exact trivial
theorem a3r(v:Value):Mf P (asIntOf v):=by
 try unfold asIntOf
 repeat' first|assumption|with_reducible (first|exact y7 _|refine Q7 _ ?_|exact o5 _)|split|dsimp only|exact trivial
theorem a2W(v:Value):Mf P (asInt v):=by
 try unfold asInt
 repeat' first|assumption|with_reducible (first|exact o5 _|exact a3r _|refine l9 ?_ fun _=>?_)|split|dsimp only|exact trivial
theorem a4s(v:Value):Mf P (asBool v):=by
 try unfold asBool
 repeat' first|assumption|with_reducible (first|exact y7 _|exact o5 _)|split|dsimp only|exact trivial
theorem c0x{v:Value}:Mf P (asAgg v):=by
 try unfold asAgg
 repeat' first|assumption|with_reducible (first|exact y7 _|exact o5 _)|split|dsimp only|exact trivial
theorem a2X{v:Value}:Mf P (asAddr v):=by
 try unfold asAddr
 repeat' first|assumption|with_reducible (first|exact y7 _|exact o5 _|exact G6 _)|split|dsimp only|exact trivial
theorem a1x{v:Value}:Mf P (Instr.sureAddr v):=by
 try unfold Instr.sureAddr
 repeat' first|assumption|with_reducible (first|exact y7 _|exact o5 _)|split|dsimp only|exact trivial
theorem a6I{r:Nat}:Mf P (viewAt r):=by
 try unfold viewAt
 repeat' first|assumption|with_reducible (first|exact o5 _|exact Z8 _|exact Z9|refine l9 ?_ fun _=>?_|refine F9 _ ?_ ?_)|split|dsimp only|exact trivial
theorem a7n{r:Nat}:Mf P (numberAt r):=by
 try unfold numberAt
 repeat' first|assumption|with_reducible (first|exact o5 _|exact Z8 _|exact Z9|refine l9 ?_ fun _=>?_|refine F9 _ ?_ ?_)|split|dsimp only|exact trivial
theorem a0M{a:Addr}:Mf P (behindNumber a):=by
 try unfold behindNumber
 repeat' first|assumption|with_reducible (first|exact o5 _|exact a7n|refine l9 ?_ fun _=>?_)|split|dsimp only|exact trivial
theorem a7o{a:Addr}(l:Bool):Mf P (asNumber a l):=by
 try unfold asNumber
 repeat' first|assumption|with_reducible (first|exact o5 _|exact a2V|refine l9 ?_ fun _=>?_)|split|dsimp only|exact trivial
theorem b0L{a:Addr}:Mf P (noView a):=by
 try unfold noView
 repeat' first|assumption|with_reducible (first|refine Q7 _ ?_|exact o5 _|exact a6I|refine l9 ?_ fun _=>?_|refine F9 _ ?_ ?_)|split|dsimp only|exact trivial
theorem a2Y(a:Addr):Mf P (markStringish a):=by
 try unfold markStringish
 repeat' first|assumption|with_reducible (first|exact o5 _|exact Z8 _|exact b7R _ _|refine l9 ?_ fun _=>?_)|split|dsimp only|exact trivial
theorem b1K(a:Addr):Mf P (stringish a):=by
 try unfold stringish
 repeat' first|assumption|with_reducible (first|exact o5 _|exact Z8 _|exact a6E _|refine l9 ?_ fun _=>?_|refine F9 _ ?_ ?_)|split|dsimp only|exact trivial
theorem b29(a b:Addr):Mf P (mayBeOne a b):=by
 try unfold mayBeOne
 repeat' first|assumption|with_reducible (first|exact o5 _|exact Z8 _|exact b1K _|refine l9 ?_ fun _=>?_)|split|dsimp only|exact trivial
theorem a3X{a b:Addr}:Mf P (sameAddr a b):=by
 try unfold sameAddr
 repeat' first|assumption|with_reducible (first|refine Q7 _ ?_|exact o5 _|exact a6E _|exact O4 _|exact b0L|exact b29 _ _|refine l9 ?_ fun _=>?_|refine F9 _ ?_ ?_)|split|dsimp only|exact trivial
theorem b4K{r:Nat}:Mf P (cellsIn r):=by
 try unfold cellsIn
 repeat' first|assumption|with_reducible (first|exact o5 _|exact Z8 _|exact Z9|refine l9 ?_ fun _=>?_)|split|dsimp only|exact trivial
theorem a2Z{a:Addr}:Mf P (byteOf a):=by
 try unfold byteOf
 repeat' first|assumption|with_reducible (first|exact y7 _|exact o5 _|exact Z8 _|exact b0L|refine I7 ?_|refine l9 ?_ fun _=>?_|refine F9 _ ?_ ?_)|split|dsimp only|exact trivial
theorem b7S{a:Addr}(c b:Nat):Mf P (partAt a c b):=by
 try unfold partAt
 repeat' first|assumption|with_reducible (first|exact o5 _|exact a2Z|refine l9 ?_ fun _=>?_)|split|dsimp only|exact trivial
theorem a2H{a:Addr}(f:Field):Mf P (fieldPlace a f):=by
 try unfold fieldPlace
 repeat' first|assumption|with_reducible (first|exact o5 _|exact L9 _|exact b7S _ _|refine l9 ?_ fun _=>?_|refine F9 _ ?_ ?_)|split|dsimp only|exact trivial
theorem a8Z(a:Addr)(u:TypeId)(n:Nat):Mf P (variablesAt a u n):=by
 try unfold variablesAt
 repeat' first|assumption|with_reducible (first|exact o5 _|exact Z8 _|refine I7 ?_|refine l9 ?_ fun _=>?_)|split|dsimp only|exact trivial
theorem c0y(t:TypeId):Mf P (Instr.alloc t true (.tuple #[])):=by
 try unfold Instr.alloc
 repeat' first|assumption|with_reducible (first|exact o5 _|exact U7 _|exact a1W _|refine l9 ?_ fun _=>?_)|split|dsimp only|exact trivial
theorem c4S(t:TypeId){v:Value}:Mf P (Instr.box t v):=by
 try unfold Instr.box
 repeat' first|assumption|with_reducible (first|exact o5 _|exact a1W _|refine l9 ?_ fun _=>?_)|split|dsimp only|exact trivial
theorem c0z(t:TypeId){parts:Array (Nat×Value)}:Mf P (Instr.build t parts):=by
 try unfold Instr.build
 repeat' first|assumption|with_reducible (first|exact y7 _|exact o5 _|exact o8 _|exact L9 _|exact U7 _|refine l9 ?_ fun _=>?_|refine b59 _ _ fun _=>?_)|split|dsimp only|exact trivial
theorem a9O(t:TypeId)(len:Nat){parts:Array (Nat×Value)}:Mf P (Instr.buildSlice t len parts):=by
 try unfold Instr.buildSlice
 repeat' first|assumption|with_reducible (first|exact y7 _|refine Q7 _ ?_|exact o5 _|exact o8 _|exact L9 _|exact U7 _|exact a1h _|refine l9 ?_ fun _=>?_|refine F9 _ ?_ ?_)|split|dsimp only|exact trivial
theorem b7T(t:TypeId){a:Value}:Mf P (Instr.loadAt t a):=by
 try unfold Instr.loadAt
 repeat' first|assumption|with_reducible (first|exact a0P _|exact a1x|refine l9 ?_ fun _=>?_)|split|dsimp only|exact trivial
theorem b4L(t:TypeId){a v:Value}:Mf P (Instr.storeAt t a v):=by
 try unfold Instr.storeAt
 repeat' first|assumption|with_reducible (first|exact a7m _|exact a1x|refine l9 ?_ fun _=>?_)|split|dsimp only|exact trivial
theorem b4M(s:TypeId){a:Value}(f:Nat):Mf P (Instr.fieldAt s a f):=by
 try unfold Instr.fieldAt
 repeat' first|assumption|with_reducible (first|exact y7 _|exact o5 _|exact o8 _|exact a1x|exact a2H _|refine l9 ?_ fun _=>?_)|split|dsimp only|exact trivial
theorem b4N(t:TypeId){x:Value}(i:Value):Mf P (Instr.indexAt t x i):=by
 try unfold Instr.indexAt
 repeat' first|assumption|with_reducible (first|exact y7 _|refine Q7 _ ?_|exact o5 _|exact o8 _|exact L9 _|exact a2f _ _ _ _|exact a3r _|exact a1x|refine l9 ?_ fun _=>?_|refine F9 _ ?_ ?_)|split|dsimp only|exact trivial
theorem a9P(x:Value)(y:Nat)(c:BoundsCode):Mf P (Instr.sliceBound x y c):=by
 try unfold Instr.sliceBound
 repeat' first|assumption|with_reducible (first|exact o5 _|exact a2f _ _ _ _|exact a3r _|refine l9 ?_ fun _=>?_|refine F9 _ ?_ ?_)|split|dsimp only|exact trivial
theorem a3Y(s:Bool)(len cap:Nat)(low high max:Option Value):Mf P (Instr.sliceBounds s len cap low high max):=by
 try unfold Instr.sliceBounds
 repeat' first|assumption|with_reducible (first|exact y7 _|exact o5 _|exact a9P _ _ _|refine l9 ?_ fun _=>?_)|split|dsimp only|exact trivial
theorem c0A(t:TypeId){x:Value}(low high max:Option Value):Mf P (Instr.slice t x low high max):=by
 try unfold Instr.slice
 repeat' first|assumption|with_reducible (first|exact y7 _|exact o5 _|exact o8 _|exact L9 _|exact a2X|exact a3Y _ _ _ _ _ _|refine l9 ?_ fun _=>?_|refine F9 _ ?_ ?_)|split|dsimp only|exact trivial
theorem b4O(t:TypeId){x:Value}(low high max:Option Value):Mf P (Instr.sliceAt t x low high max):=by
 try unfold Instr.sliceAt
 repeat' first|assumption|with_reducible (first|exact o5 _|exact o8 _|exact L9 _|exact a1x|exact a3Y _ _ _ _ _ _|exact c0A _ _ _ _|refine l9 ?_ fun _=>?_)|split|dsimp only|exact trivial
theorem a6J(t:TypeId){v:Value}:Mf P (Instr.makeInterface t v):=by
 try unfold Instr.makeInterface
 repeat' first|assumption|with_reducible (first|exact y7 _|exact o5 _|exact o8 _|refine l9 ?_ fun _=>?_)|split|dsimp only|exact trivial
theorem b3a{fn:Fn}{a b:Array Value}:Mf P (Instr.makeFunc fn a b):=by
 try unfold Instr.makeFunc
 repeat' first|assumption|with_reducible exact o5 _|split|dsimp only|exact trivial
theorem b4P(t:TypeId)(r:Option Value):Mf P (Instr.makeMap t r):=by
 try unfold Instr.makeMap
 repeat' first|assumption|with_reducible (first|exact y7 _|exact o5 _|exact a2V|exact o8 _|exact a2W _|refine l9 ?_ fun _=>?_)|split|dsimp only|exact trivial
theorem b1L(t:TypeId)(l c:Value):Mf P (Instr.makeSlice t l c):=by
 try unfold Instr.makeSlice
 repeat' first|assumption|with_reducible (first|exact y7 _|exact o5 _|exact O4 _|exact a5h _|exact o8 _|exact J4 _|exact L9 _|exact U7 _|exact a1h _|exact G6 _|exact a2W _|refine l9 ?_ fun _=>?_|refine F9 _ ?_ ?_)|split|dsimp only|exact trivial
theorem c0B(t:TypeId){x:Value}(f:Nat):Mf P (Instr.field t x f):=by
 try unfold Instr.field
 repeat' first|assumption|with_reducible (first|exact y7 _|exact o8 _|exact a0L _ _|exact c0x|refine l9 ?_ fun _=>?_)|split|dsimp only|exact trivial
theorem c0C(t:TypeId){x:Value}(i:Value):Mf P (Instr.index t x i):=by
 try unfold Instr.index
 repeat' first|assumption|with_reducible (first|exact y7 _|exact o5 _|exact o8 _|exact L9 _|exact a0L _ _|exact a2f _ _ _ _|exact a3r _|refine l9 ?_ fun _=>?_|refine F9 _ ?_ ?_)|split|dsimp only|exact trivial
theorem b4Q{x:Value}(i:Nat):Mf P (Instr.extract x i):=by
 try unfold Instr.extract
 repeat' first|assumption|with_reducible (first|exact y7 _|exact o5 _)|split|dsimp only|exact trivial
theorem b3b:Mf P Instr.panicnil:=by
 unfold Instr.panicnil;refine l9 c0u fun _=>?_;repeat' first|assumption|with_reducible (first|exact y7 _|exact o5 _|exact c0u|refine I7 ?_|refine l9 ?_ fun _=>?_)|split|dsimp only|exact trivial
theorem b3c(x:Value):Mf P (Instr.panic x):=by
 unfold Instr.panic;split
 ·exact trivial
 ·refine l9 b3b fun _=>?_;split
  ·exact trivial
  ·exact G6 _
 all_goals exact trivial
theorem a9Q{x:Value}(t u:TypeId)(ok:Bool):Mf P (Instr.typeAssert x t u ok):=by
 try unfold Instr.typeAssert
 repeat' first|assumption|with_reducible (first|exact y7 _|exact o5 _|exact o8 _|exact J4 _|exact U7 _|exact G6 _|refine l9 ?_ fun _=>?_|refine F9 _ ?_ ?_)|split|dsimp only|exact trivial
theorem a7p(op:BinOp)(k:IntKind)(x y:Int):Mf P (Op.intArith op k x y):=by
 try unfold Op.intArith
 repeat' first|assumption|with_reducible (first|exact y7 _|exact o5 _)|split|dsimp only|exact trivial
theorem a81(op:BinOp)(k:IntKind)(x y:Int):Mf P (Op.intBits op k x y):=by
 try unfold Op.intBits
 repeat' first|assumption|with_reducible (first|exact y7 _|exact o5 _)|split|dsimp only|exact trivial
theorem b7U(op:BinOp)(x y:Int):Mf P (Op.intCmp op x y):=by
 try unfold Op.intCmp
 repeat' first|assumption|with_reducible (first|exact y7 _|exact o5 _)|split|dsimp only|exact trivial
theorem b7V(op:BinOp)(k:IntKind)(x y:Int):Mf P (Op.intDiv op k x y):=by
 try unfold Op.intDiv
 repeat' first|assumption|with_reducible (first|exact y7 _|exact o5 _|exact G6 _|refine F9 _ ?_ ?_)|split|dsimp only|exact trivial
theorem c0D(op:BinOp)(k:IntKind)(x:Int)(k':IntKind)(y:Int):Mf P (Op.shift op k x k' y):=by
 try unfold Op.shift
 repeat' first|assumption|with_reducible (first|exact y7 _|exact o5 _|exact G6 _|refine F9 _ ?_ ?_)|split|dsimp only|exact trivial
theorem a3Z(op:BinOp)(x y:ByteArray):Mf P (Op.stringOp op x y):=by
 try unfold Op.stringOp
 repeat' first|assumption|with_reducible (first|exact y7 _|refine Q7 _ ?_|exact o5 _|refine F9 _ ?_ ?_)|split|dsimp only|exact trivial
theorem a4P(op:BinOp)(k:FloatKind)(x y:Nat):Mf P (Op.floatArith op k x y):=by
 try unfold Op.floatArith
 repeat' first|assumption|with_reducible (first|exact y7 _|exact o5 _|exact O4 _|refine l9 ?_ fun _=>?_)|split|dsimp only|exact trivial
theorem a7q(op:BinOp)(k:FloatKind)(x y:Nat):Mf P (Op.floatCmp op k x y):=by
 try unfold Op.floatCmp
 repeat' first|assumption|with_reducible (first|exact y7 _|exact o5 _)|split|dsimp only|exact trivial
theorem a9R(k:FloatKind)(b:Nat)(d:IntKind):Mf P (Conv.floatToInt k b d):=by
 try unfold Conv.floatToInt
 repeat' first|assumption|with_reducible (first|exact o5 _|exact O4 _|refine l9 ?_ fun _=>?_|refine F9 _ ?_ ?_)|split|dsimp only|exact trivial
theorem a1H(k:FloatKind)(b:Nat)(d:FloatKind):Mf P (Conv.floatToFloat k b d):=by
 try unfold Conv.floatToFloat
 repeat' first|assumption|with_reducible (first|exact o5 _|exact O4 _|refine l9 ?_ fun _=>?_|refine F9 _ ?_ ?_)|split|dsimp only|exact trivial
theorem a3L(src:FloatKind)(x:Nat)(dst:FloatKind):Mf P (Op.Complex.conv src x dst):=by
 try unfold Op.Complex.conv
 repeat' first|assumption|with_reducible (first|exact y7 _|exact o5 _|exact a1H _ _ _|refine l9 ?_ fun _=>?_|refine F9 _ ?_ ?_)|split|dsimp only|exact trivial
theorem a0U(op:BinOp)(k:FloatKind)(x y:Nat):Mf P (Op.Complex.arith op k x y):=by
 try unfold Op.Complex.arith
 repeat' first|assumption|with_reducible (first|exact y7 _|exact o5 _|exact a4P _ _ _ _|refine l9 ?_ fun _=>?_)|split|dsimp only|exact trivial
theorem a5L(op:BinOp)(k:FloatKind)(x y:Nat):Mf P (Op.Complex.cmp op k x y):=by
 try unfold Op.Complex.cmp
 repeat' first|assumption|with_reducible (first|exact a4s _|exact a7q _ _ _ _|refine l9 ?_ fun _=>?_)|split|dsimp only|exact trivial
theorem a07(x y:Nat):Mf P (Op.Complex.mul x y):=a0U _ _ _ _
theorem b1M(x y:Nat):Mf P (Op.Complex.add x y):=a0U _ _ _ _
theorem b1N(x y:Nat):Mf P (Op.Complex.sub x y):=a0U _ _ _ _
theorem c2V(x y:Nat):Mf P (Op.Complex.quo x y):=a0U _ _ _ _
theorem a88(a b c d:Nat):Mf P (Op.Complex.product a b c d):=by
 unfold Op.Complex.product;exact l9 (a07 _ _) fun _=>l9 (a07 _ _) fun _=>l9 (b1N _ _) fun _=>l9 (a07 _ _) fun _=>l9 (a07 _ _) fun _=>l9 (b1M _ _) fun _=>trivial
theorem b1O(s a b c d:Nat):Mf P (Op.Complex.corrected s a b c d):=by
 unfold Op.Complex.corrected;exact l9 (a07 _ _) fun _=>l9 (a07 _ _) fun _=>l9 (b1M _ _) fun _=>l9 (a07 _ _) fun _=>l9 (a07 _ _) fun _=>l9 (a07 _ _) fun _=>l9 (b1N _ _) fun _=>l9 (a07 _ _) fun _=>trivial
theorem a7r(a b c d:Nat):Mf P (Op.Complex.quotient a b c d):=by
 unfold Op.Complex.quotient;dsimp only
 repeat' first
  | with_reducible exact o5 _
  | with_reducible exact b1O _ _ _ _ _
  | with_reducible refine l9 (a5L _ _ _ _) fun _=>?_
  | with_reducible refine l9 (a07 _ _) fun _=>?_
  | with_reducible refine l9 (b1M _ _) fun _=>?_
  | with_reducible refine l9 (b1N _ _) fun _=>?_
  | with_reducible refine l9 (c2V _ _) fun _=>?_
  | with_reducible refine l9 (o5 _) fun _=>?_
  | split
theorem b1P(op:BinOp)(k:FloatKind)(a b c d:Nat):Mf P (Op.complexOp op k a b c d):=by
 unfold Op.complexOp;split
 ·exact l9 (a0U _ _ _ _) fun _=>l9 (a0U _ _ _ _) fun _=>trivial
 ·exact l9 (a0U _ _ _ _) fun _=>l9 (a0U _ _ _ _) fun _=>trivial
 ·refine l9 (a3L _ _ _) fun _=>l9 (a3L _ _ _) fun _=>l9 (a3L _ _ _) fun _=>l9 (a3L _ _ _) fun _=>l9 ?_ fun _=>l9 (a3L _ _ _) fun _=>l9 (a3L _ _ _) fun _=>trivial;first|exact a88 _ _ _ _|exact a7r _ _ _ _
 ·refine l9 (a3L _ _ _) fun _=>l9 (a3L _ _ _) fun _=>l9 (a3L _ _ _) fun _=>l9 (a3L _ _ _) fun _=>l9 ?_ fun _=>l9 (a3L _ _ _) fun _=>l9 (a3L _ _ _) fun _=>trivial;first|exact a88 _ _ _ _|exact a7r _ _ _ _
 ·exact l9 (a5L _ _ _ _) fun _=>l9 (a5L _ _ _ _) fun _=>trivial
 ·exact l9 (a5L _ _ _ _) fun _=>l9 (a5L _ _ _ _) fun _=>trivial
 ·exact trivial
theorem c0E(op:UnOp)(x:Value):Mf P (Op.unary op x):=by
 try unfold Op.unary
 repeat' first|assumption|with_reducible (first|exact y7 _|refine Q7 _ ?_|exact o5 _|exact a7p _ _ _ _|exact a81 _ _ _ _)|split|dsimp only|exact trivial
theorem a4a{a b:Option Addr}:Mf P (samePointer a b):=by
 try unfold samePointer
 repeat' first|assumption|with_reducible (first|exact o5 _|exact a3X)|split|dsimp only|exact trivial
theorem b4R :∀(n:Nat)(t:TypeId)(x y:Value),  Mf P (Op.equalIn n t x y):=by
 intro n
 induction n with
 | zero=>
  intros;try unfold Op.equalIn
  repeat' first|assumption|with_reducible (first|exact y7 _|refine Q7 _ ?_|exact o5 _|exact O4 _|exact o8 _|exact J4 _|exact L9 _|exact a2e _|exact a0L _ _|exact G6 _|exact a0M|exact a3X|exact a2Z|exact a4a|refine I7 ?_|refine l9 ?_ fun _=>?_|refine F9 _ ?_ ?_|refine a0T _ fun _ _=>?_|refine a1V _ fun _ _=>?_)|split|dsimp only|exact trivial
 | succ n ih=>
  intros;try unfold Op.equalIn
  repeat' first|assumption|with_reducible (first|exact y7 _|refine Q7 _ ?_|exact o5 _|exact ih _ _ _|exact O4 _|exact o8 _|exact J4 _|exact L9 _|exact a2e _|exact a0L _ _|exact G6 _|exact a0M|exact a3X|exact a2Z|exact a4a|refine I7 ?_|refine l9 ?_ fun _=>?_|refine F9 _ ?_ ?_|refine a0T _ fun _ _=>?_|refine a1V _ fun _ _=>?_)|split|dsimp only|exact trivial
theorem a9a(t:TypeId){x y:Value}:Mf P (Op.equal t x y):=by
 try unfold Op.equal
 repeat' first|assumption|with_reducible exact b4R _ _ _ _|split|dsimp only|exact trivial
theorem b1Q :∀(n:Nat)(t:TypeId)(x y:Value),  Mf P (Op.eqGuardIn n t x y):=by
 intro n
 induction n with
 | zero=>
  intros;try unfold Op.eqGuardIn
  repeat' first|assumption|with_reducible (first|refine Q7 _ ?_|exact o5 _|exact o8 _|exact L9 _|exact a0L _ _|refine l9 ?_ fun _=>?_|refine F9 _ ?_ ?_|refine a0T _ fun _ _=>?_|refine a1V _ fun _ _=>?_)|split|dsimp only|exact trivial
 | succ n ih=>
  intros;try unfold Op.eqGuardIn
  repeat' first|assumption|with_reducible (first|refine Q7 _ ?_|exact o5 _|exact ih _ _ _|exact o8 _|exact L9 _|exact a0L _ _|refine l9 ?_ fun _=>?_|refine F9 _ ?_ ?_|refine a0T _ fun _ _=>?_|refine a1V _ fun _ _=>?_)|split|dsimp only|exact trivial
theorem b4S(op:BinOp)(t:TypeId)(x y:Operand){a b:Value}:Mf P (eqGuard op t x y a b):=by
 try unfold eqGuard
 repeat' first|assumption|with_reducible (first|refine Q7 _ ?_|exact o5 _|exact b1Q _ _ _ _|refine I7 ?_|refine l9 ?_ fun _=>?_|refine F9 _ ?_ ?_)|split|dsimp only|exact trivial
theorem a9S(ts:Array TypeId)(t:TypeId){ptr:Option Addr}(y:Value):Mf P (Builtin.unsafeAdd_ ts t #[.pointer ptr,y]):=by
 unfold Builtin.unsafeAdd_;refine l9 (a2W _) fun n=>?_;repeat' first|assumption|with_reducible (first|refine Q7 _ ?_|exact o5 _|exact Z8 _|exact a2W _|exact a6I|refine I7 ?_|refine l9 ?_ fun _=>?_|refine F9 _ ?_ ?_)|split|dsimp only|exact trivial
theorem a5M(ts:Array TypeId)(t:TypeId){args:Array Value}:Mf P (Builtin.unsafeAdd_ ts t args):=by
 obtain⟨l⟩:=args;rcases l with _|⟨x,_|⟨y,_|⟨z,l⟩⟩⟩
 ·exact trivial
 ·cases x<;>exact trivial
 ·cases x with
  | pointer p=>exact a9S ts t y
  | _=>exact trivial
 ·cases x<;>exact trivial
theorem a9b(t:TypeId){x y:Value}:Mf P (movedNumber t x y):=by
 try unfold movedNumber
 repeat' first|assumption|with_reducible (first|refine Q7 _ ?_|exact o5 _|exact o8 _|exact a0M|exact a7o _|exact a5M _ _|refine l9 ?_ fun _=>?_|refine F9 _ ?_ ?_)|split|dsimp only|exact trivial
theorem a7U(t:TypeId){x y:Value}:Mf P (movedPointer t x y):=by
 try unfold movedPointer
 repeat' first|assumption|with_reducible (first|refine Q7 _ ?_|exact a7n|exact a5M _ _|refine l9 ?_ fun _=>?_|refine F9 _ ?_ ?_)|split|dsimp only|exact trivial
theorem a5N{a b:Addr}:Mf P (Op.twoPlaces a b):=by
 try unfold Op.twoPlaces
 repeat' first|assumption|with_reducible (first|refine Q7 _ ?_|exact o5 _|exact a2Z|refine I7 ?_|refine l9 ?_ fun _=>?_|refine F9 _ ?_ ?_)|split|dsimp only|exact trivial
theorem b4T(k:IntKind){a b:Addr}:Mf P (Op.addrSub k a b):=by
 try unfold Op.addrSub
 repeat' first|assumption|with_reducible (first|exact o5 _|exact a5N|refine l9 ?_ fun _=>?_)|split|dsimp only|exact trivial
theorem b4U(op:BinOp){a b:Addr}:Mf P (Op.addrCmp op a b):=by
 try unfold Op.addrCmp
 repeat' first|assumption|with_reducible (first|refine Q7 _ ?_|exact o5 _|exact a5N|refine l9 ?_ fun _=>?_)|split|dsimp only|exact trivial
theorem b4V(k:IntKind){a:Addr}(n:Int):Mf P (Op.addrMod k a n):=by
 try unfold Op.addrMod
 repeat' first|assumption|with_reducible (first|refine Q7 _ ?_|exact o5 _|exact Z8 _|exact J4 _|exact a2Z|refine l9 ?_ fun _=>?_|refine F9 _ ?_ ?_)|split|dsimp only|exact trivial
theorem c0F(op:BinOp)(t:TypeId){x y:Value}:Mf P (binOp op t x y):=by
 try unfold binOp
 repeat' first|assumption|with_reducible (first|exact y7 _|refine Q7 _ ?_|exact o5 _|exact o8 _|exact a0M|exact a7p _ _ _ _|exact a81 _ _ _ _|exact b7U _ _ _|exact b7V _ _ _ _|exact c0D _ _ _ _ _|exact a3Z _ _ _|exact a4P _ _ _ _|exact a7q _ _ _ _|exact b1P _ _ _ _ _ _|exact a9a _|exact a9b _|exact a7U _|exact b4T _|exact b4U _|exact b4V _ _|refine l9 ?_ fun _=>?_|refine F9 _ ?_ ?_)|split|dsimp only|exact trivial
theorem a6K{x:Value}:Mf P (Conv.bytesToString x):=by
 try unfold Conv.bytesToString
 repeat' first|assumption|with_reducible (first|exact y7 _|exact o5 _|exact a1L _|refine l9 ?_ fun _=>?_|refine a0T _ fun _ _=>?_)|split|dsimp only|exact trivial
theorem a6L{x:Value}:Mf P (Conv.runesToString x):=by
 try unfold Conv.runesToString
 repeat' first|assumption|with_reducible (first|exact y7 _|exact o5 _|exact a1L _|refine l9 ?_ fun _=>?_|refine a0T _ fun _ _=>?_)|split|dsimp only|exact trivial
theorem a6M(e:TypeId)(s:ByteArray):Mf P (Conv.stringToBytes e s):=by
 try unfold Conv.stringToBytes
 repeat' first|assumption|with_reducible (first|exact o5 _|exact O4 _|exact a1h _|exact a2Y _|refine l9 ?_ fun _=>?_)|split|dsimp only|exact trivial
theorem a6N(e:TypeId)(s:ByteArray):Mf P (Conv.stringToRunes e s):=by
 try unfold Conv.stringToRunes
 repeat' first|assumption|with_reducible (first|exact o5 _|exact O4 _|exact a1h _|refine l9 ?_ fun _=>?_)|split|dsimp only|exact trivial
theorem b7W{a:Addr}:Mf P (Conv.seenAt a):=by
 try unfold Conv.seenAt
 repeat' first|assumption|with_reducible (first|refine Q7 _ ?_|exact o5 _|exact Z8 _|exact a6I|refine I7 ?_|refine l9 ?_ fun _=>?_|refine F9 _ ?_ ?_)|split|dsimp only|exact trivial
theorem a6O(t u:TypeId){x:Value}:Mf P (Conv.unsafePointer t u x):=by
 try unfold Conv.unsafePointer
 repeat' first|assumption|with_reducible (first|exact y7 _|refine Q7 _ ?_|exact o5 _|exact a2V|exact Z8 _|exact o8 _|exact L9 _|exact a7o _|exact b4K|exact a8Z _ _ _|exact b7W|refine I7 ?_|refine l9 ?_ fun _=>?_|refine F9 _ ?_ ?_)|split|dsimp only|exact trivial
theorem a4F(s:FloatKind)(a b:Nat)(k:FloatKind):Mf P (Conv.complexToComplex s a b k):=by
 unfold Conv.complexToComplex;repeat' first|assumption|with_reducible (first|exact y7 _|exact o5 _|exact a1H _ _ _|refine l9 ?_ fun _=>?_)|split|dsimp only|exact trivial
theorem b4W(t u:TypeId){x:Value}:Mf P (convert t u x):=by
 unfold convert
 repeat' first
  | with_reducible exact a4F _ _ _ _
  | assumption|with_reducible (first|exact y7 _|refine Q7 _ ?_|exact o5 _|exact o8 _|exact a2Y _|exact a9R _ _ _|exact a1H _ _ _|exact a6K|exact a6L|exact a6M _ _|exact a6N _ _|exact a6O _ _|refine l9 ?_ fun _=>?_)|split|dsimp only|exact trivial
theorem a4b(em:Bool):∀(n:Nat)(t:TypeId)(v:Value), Mf P (Instr.checkKey em n t v):=by
 intro n
 induction n with
 | zero=>
  intros;try unfold Instr.checkKey
  repeat' first|assumption|with_reducible (first|exact y7 _|refine Q7 _ ?_|exact o5 _|exact o8 _|exact J4 _|exact L9 _|exact a2e _|exact a0L _ _|exact G6 _|refine l9 ?_ fun _=>?_|refine F9 _ ?_ ?_|refine a0T _ fun _ _=>?_|refine a1V _ fun _ _=>?_)|split|dsimp only|exact trivial
 | succ n ih=>
  intros;try unfold Instr.checkKey
  repeat' first|assumption|with_reducible (first|exact y7 _|refine Q7 _ ?_|exact o5 _|exact ih _ _|exact o8 _|exact J4 _|exact L9 _|exact a2e _|exact a0L _ _|exact G6 _|refine l9 ?_ fun _=>?_|refine F9 _ ?_ ?_|refine a0T _ fun _ _=>?_|refine a1V _ fun _ _=>?_)|split|dsimp only|exact trivial
theorem a9T(t:TypeId){k:Value}:∀(l:List MapEntry)(i:Nat), Mf P (Instr.findAsking t k l i):=by
 intro l
 induction l with
 | nil=>
  intros;try unfold Instr.findAsking
  repeat' first|assumption|with_reducible (first|exact o5 _|exact a9a _|refine l9 ?_ fun _=>?_|refine F9 _ ?_ ?_)|split|dsimp only|exact trivial
 | cons x l ih=>
  intros;try unfold Instr.findAsking
  repeat' first|assumption|with_reducible (first|exact o5 _|exact ih _|exact a9a _|refine l9 ?_ fun _=>?_|refine F9 _ ?_ ?_)|split|dsimp only|exact trivial
theorem a5i(t:TypeId){k:Value}{l:List MapEntry}:Mf P (Instr.findKey t k l):=by
 try unfold Instr.findKey
 repeat' first|assumption|with_reducible (first|exact o5 _|exact o8 _|exact a9T _ _ _|refine l9 ?_ fun _=>?_)|split|dsimp only|exact trivial
theorem b7X(t:TypeId){x i:Value}(ok:Bool):Mf P (Instr.lookup t x i ok):=by
 try unfold Instr.lookup
 repeat' first|assumption|with_reducible (first|exact y7 _|exact o5 _|exact Z9|exact o8 _|exact U7 _|exact a4b _ _ _ _|exact a5i _|refine l9 ?_ fun _=>?_)|split|dsimp only|exact trivial
theorem a7V{a b:Value}:Mf P (Instr.keyThatStays a b):=by
 try unfold Instr.keyThatStays
 repeat' first|assumption|with_reducible (first|exact o5 _|exact O4 _|refine l9 ?_ fun _=>?_|refine F9 _ ?_ ?_)|split|dsimp only|exact trivial
theorem a5O(t:TypeId){m k v:Value}:Mf P (Instr.mapUpdate t m k v):=by
 try unfold Instr.mapUpdate
 repeat' first|assumption|with_reducible (first|exact y7 _|exact Z9|exact a6F|exact o8 _|exact G6 _|exact a4b _ _ _ _|exact a5i _|exact a7V|refine l9 ?_ fun _=>?_)|split|dsimp only|exact trivial
theorem b7Y(ts:Array TypeId)(t:TypeId){args:Array Value}:Mf P (Builtin.delete_ ts t args):=by
 try unfold Builtin.delete_
 repeat' first|assumption|with_reducible (first|exact y7 _|exact o5 _|exact Z9|exact a6F|exact o8 _|exact a4b _ _ _ _|exact a5i _|refine l9 ?_ fun _=>?_)|split|dsimp only|exact trivial
theorem c0G(t:TypeId){x:Value}:Mf P (Instr.range t x):=by
 try unfold Instr.range
 repeat' first|assumption|with_reducible (first|exact y7 _|exact o5 _|exact a2V|exact Z9|exact o8 _|refine l9 ?_ fun _=>?_)|split|dsimp only|exact trivial
theorem c2W{x:Value}(s:Bool)(t:TypeId):Mf P (Instr.next x s t):=by
 try unfold Instr.next
 repeat' first|assumption|with_reducible (first|exact y7 _|refine Q7 _ ?_|exact o5 _|exact Z9|exact a6F|exact O4 _|refine l9 ?_ fun _=>?_|refine F9 _ ?_ ?_)|split|dsimp only|exact trivial
theorem c0H{x:Value}:Mf P (Instr.entry x):=by
 try unfold Instr.entry
 repeat' first|assumption|with_reducible (first|exact y7 _|refine Q7 _ ?_|exact o5 _|exact Z9|refine l9 ?_ fun _=>?_|refine F9 _ ?_ ?_)|split|dsimp only|exact trivial
theorem a2I(a:Addr)(n:Nat):Mf P (Builtin.holdsCells a n):=by
 try unfold Builtin.holdsCells
 repeat' first|assumption|with_reducible (first|exact o5 _|exact Z8 _|refine l9 ?_ fun _=>?_)|split|dsimp only|exact trivial
theorem a9c(x:Value):Mf P (Builtin.lenOf x):=by
 try unfold Builtin.lenOf
 repeat' first|assumption|with_reducible (first|exact y7 _|exact o5 _)|split|dsimp only|exact trivial
theorem a1r(size n:Nat){x:Value}:Mf P (Builtin.firstCells size n x):=by
 try unfold Builtin.firstCells
 repeat' first|assumption|with_reducible (first|exact y7 _|exact o5 _|exact a1L _)|split|dsimp only|exact trivial
theorem a7s(size l n:Nat)(base:Option Addr)(x:Value):Mf P (Builtin.mayShare size l n base x):=by
 try unfold Builtin.mayShare
 repeat' first|assumption|with_reducible (first|exact o5 _|exact a6E _|exact a2I _ _|refine l9 ?_ fun _=>?_|refine F9 _ ?_ ?_)|split|dsimp only|exact trivial
theorem a7t(zeros:Bool)(size n:Nat)(elem:TypeId){x:Value}:Mf P (if (!zeros)=true then Builtin.firstCells size n x else if n*size=0 then pure #[] else do pure (Builtin.zeroCells (<-zeroValue elem).cells n)):=by
 repeat' first|assumption|with_reducible (first|exact o5 _|exact U7 _|exact a1r _ _|refine l9 ?_ fun _=>?_|refine F9 _ ?_ ?_)|split|dsimp only|exact trivial
theorem b7Z(ts:Array TypeId)(t:TypeId){args:Array Value}:Mf P (Builtin.append_ ts t args):=by
 unfold Builtin.append_;split
 case h_2=>exact trivial
 refine l9 (o8 _) fun d=>?_;split
 case h_2=>exact trivial
 repeat' first
  | with_reducible exact o5 _
  | with_reducible exact y7 _
  | with_reducible refine Q7 _ ?_
  | with_reducible exact o8 _
  | with_reducible refine l9 (o8 _) fun _=>?_
  | with_reducible exact L9 _
  | with_reducible refine l9 (L9 _) fun _=>?_
  | with_reducible exact J4 _
  | with_reducible refine l9 (J4 _) fun _=>?_
  | with_reducible exact a2W _
  | with_reducible refine l9 (a2W _) fun _=>?_
  | with_reducible exact a9c _
  | with_reducible refine l9 (a9c _) fun _=>?_
  | with_reducible exact O4 _
  | with_reducible refine l9 (O4 _) fun _=>?_
  | with_reducible exact a5h _
  | with_reducible refine l9 (a5h _) fun _=>?_
  | with_reducible exact a7s _ _ _ _ _
  | with_reducible refine l9 (a7s _ _ _ _ _) fun _=>?_
  | with_reducible exact U7 _
  | with_reducible refine l9 (U7 _) fun _=>?_
  | with_reducible exact a1r _ _
  | with_reducible refine l9 (a1r _ _) fun _=>?_
  | with_reducible exact a1q _ _
  | with_reducible refine l9 (a1q _ _) fun _=>?_
  | with_reducible exact a1h _
  | with_reducible refine l9 (a1h _) fun _=>?_
  | with_reducible exact G6 _
  | with_reducible refine l9 (G6 _) fun _=>?_
  | with_reducible exact a7t _ _ _ _
  | with_reducible refine l9 (a7t _ _ _ _) fun _=>?_
  | with_reducible exact a2I _ _
  | with_reducible refine l9 (a2I _ _) fun _=>?_
  | with_reducible refine l9 b0J fun _=>?_
  | with_reducible refine l9 (o5 _) fun _=>?_
  | with_reducible refine l9 (F9 _ (G6 _) ?_) fun _=>?_
  | with_reducible refine l9 ?_ fun _=>?_
  | with_reducible refine F9 _ ?_ ?_
  | split
  | dsimp only
  | exact trivial
theorem c2X(ts:Array TypeId)(t:TypeId){args:Array Value}:Mf P (Builtin.copy_ ts t args):=by
 try unfold Builtin.copy_
 repeat' first|assumption|with_reducible (first|exact y7 _|exact o5 _|exact o8 _|exact L9 _|exact a1q _ _|exact a9c _|exact a1r _ _|refine l9 ?_ fun _=>?_)|split|dsimp only|exact trivial
theorem c4T(ts:Array TypeId)(t:TypeId){args:Array Value}:Mf P (Builtin.len_ ts t args):=by
 try unfold Builtin.len_
 repeat' first|assumption|with_reducible (first|exact y7 _|exact o5 _|exact Z9|exact o8 _|refine l9 ?_ fun _=>?_)|split|dsimp only|exact trivial
theorem c4V(ts:Array TypeId)(t:TypeId){args:Array Value}:Mf P (Builtin.cap_ ts t args):=by
 try unfold Builtin.cap_
 repeat' first|assumption|with_reducible (first|exact y7 _|exact o5 _|exact Z9|exact o8 _|refine l9 ?_ fun _=>?_)|split|dsimp only|exact trivial
theorem c2Y(x y:Value):Mf P (Builtin.max2 x y):=by
 try unfold Builtin.max2
 repeat' first|assumption|with_reducible (first|exact y7 _|refine Q7 _ ?_|exact o5 _|exact O4 _|exact a4s _|exact a3Z _ _ _|refine l9 ?_ fun _=>?_)|split|dsimp only|exact trivial
theorem c2Z(x y:Value):Mf P (Builtin.min2 x y):=by
 try unfold Builtin.min2
 repeat' first|assumption|with_reducible (first|exact y7 _|refine Q7 _ ?_|exact o5 _|exact O4 _|exact a4s _|exact a3Z _ _ _|refine l9 ?_ fun _=>?_)|split|dsimp only|exact trivial
theorem c4W(ts:Array TypeId)(t:TypeId){args:Array Value}:Mf P (Builtin.max_ ts t args):=by
 try unfold Builtin.max_
 repeat' first|assumption|with_reducible (first|exact y7 _|exact c2Y _ _|refine b0K _ (fun _ _=>?_) _ _)|split|dsimp only|exact trivial
theorem c4X(ts:Array TypeId)(t:TypeId){args:Array Value}:Mf P (Builtin.min_ ts t args):=by
 try unfold Builtin.min_
 repeat' first|assumption|with_reducible (first|exact y7 _|exact c2Z _ _|refine b0K _ (fun _ _=>?_) _ _)|split|dsimp only|exact trivial
theorem b1R(t:TypeId){x:Place}:Mf P (x.get t):=by
 unfold Place.get;repeat' first|assumption|with_reducible (first|exact o5 _|exact a0P _)|split|dsimp only|exact trivial
theorem b70 :∀(l:List FieldStep)(t:TypeId)(x:Place), Mf P (follow l t x):=by
 intro l
 induction l with
 | nil=>
  intros;try unfold follow
  repeat' first|assumption|with_reducible (first|exact y7 _|exact o5 _|exact o8 _|exact a0L _ _|exact a2X|exact a2H _|exact b1R _|refine l9 ?_ fun _=>?_|refine F9 _ ?_ ?_)|split|dsimp only|exact trivial
 | cons x l ih=>
  intros;try unfold follow
  repeat' first|assumption|with_reducible (first|exact y7 _|exact o5 _|exact ih _ _|exact o8 _|exact a0L _ _|exact a2X|exact a2H _|exact b1R _|refine l9 ?_ fun _=>?_|refine F9 _ ?_ ?_)|split|dsimp only|exact trivial
theorem c22(t u:TypeId){v:Value}(a b:String):Mf P (Builtin.ssaWrapNilChk_ #[t] u #[v,strVal a,strVal b]):=by
 unfold Builtin.ssaWrapNilChk_
 cases v with
 | pointer p=>
  cases p with
  | some p=>exact trivial
  | none=>
   refine l9 (O4 (.extern "ssa:wrapnilchk.dereferenced" 2)) fun c=>?_;dsimp only
   repeat' first|assumption|with_reducible (first|exact y7 _|refine Q7 _ ?_|exact O4 _|exact o8 _|exact J4 _|exact G6 _|refine l9 ?_ fun _=>?_|refine F9 _ ?_ ?_)|split|dsimp only|exact trivial
 | _=>exact trivial
theorem a9U(t:TypeId){x:Place}(pr:Bool)(w:Option String):Mf P (receiverAt t x pr w):=by
 try unfold receiverAt
 repeat' first|assumption|with_reducible (first|exact y7 _|exact o5 _|exact o8 _|exact a0P _|exact a2X|exact b1R _|exact c22 _ _ _ _|refine l9 ?_ fun _=>?_)|split|dsimp only|exact trivial
theorem a4c :∀(l:List FieldStep)(t:TypeId)(x:Option Value),Mf P (followBlind l t x):=by
 intro l
 induction l with
 | nil=>
  intros;try unfold followBlind
  repeat' first|assumption|with_reducible (first|exact y7 _|exact o5 _|exact o8 _|exact a0L _ _|refine l9 ?_ fun _=>?_)|split|dsimp only|exact trivial
 | cons x l ih=>
  intros;try unfold followBlind
  repeat' first|assumption|with_reducible (first|exact y7 _|exact o5 _|exact ih _ _|exact o8 _|exact a0L _ _|refine l9 ?_ fun _=>?_)|split|dsimp only|exact trivial
theorem b3d{name:String}:∀(n:Nat)(t:TypeId)(v:Value), Mf P (nilAhead n t v name):=by
 intro n
 induction n with
 | zero=>
  intros;try unfold nilAhead
  repeat' first|assumption|with_reducible (first|exact y7 _|exact o5 _|exact o8 _|exact J4 _|exact a4c _ _ _|refine l9 ?_ fun _=>?_)|split|dsimp only|exact trivial
 | succ n ih=>
  intros;try unfold nilAhead
  repeat' first|assumption|with_reducible (first|exact y7 _|exact o5 _|exact ih _ _|exact o8 _|exact J4 _|exact a4c _ _ _|refine l9 ?_ fun _=>?_)|split|dsimp only|exact trivial
end
end
end Go.Nm
