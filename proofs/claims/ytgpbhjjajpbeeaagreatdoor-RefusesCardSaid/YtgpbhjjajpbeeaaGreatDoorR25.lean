/- A part of what the last file proves. -/
import Derived.Test.YtgpbhjjajpbeeaaGreatDoorR12
set_option linter.all false
set_option maxHeartbeats 8000000
namespace Go.Proofs.YtgpbhjjajpbeeaaGreatDoor
section
open Go.RowKit Go.Lib Go.Maps Dk
open Zn (VP ObjP Zf WPs Zone Le)
def Core(a m1 m2:Nat)(mv:Value)(gs:List Nat)(dv:Nat->Value)(ids:List Nat)(b:Nat):Prop:=
 b=a\/b=m1\/b=m2\/b∈gs\/mv.ownBlock=some b\/∃x∈ids,b=x\/(dv x).ownBlock=some b
section
variable{w:World}{F:Nat->Prop}{a m1 m2:Nat}{mv:Value}{gs:List Nat}{dv:Nat->Value}{d:D}
theorem DiskRep.core_sub(h:DiskRep w F a m1 m2 mv gs dv d){b:Nat}(hb:Core a m1 m2 mv gs dv d.ids b):F b:=by
 rcases hb with rfl|rfl|rfl|hb|hb|⟨x,hx,rfl|hb⟩
 ·exact h.fa
 ·exact h.fm.1
 ·exact h.fm.2
 ·exact h.fg b hb
 ·exact h.fo b hb
 ·exact(h.fx _ hx).1
 ·exact(h.fx x hx).2 b hb
theorem b06{Z:Zone}{B:Nat}{e:TypeId}{size:Nat}{v:Value}{n:Nat}{xs:List Value}(h:w.ownsRow B e size v n xs)(hD:∀b,v.ownBlock=some b->Z.D b):VP Z v:=by
 rcases h.2 with⟨rfl,_⟩|⟨g,cap,cur,rfl,_⟩
 ·exact .snil _ _
 ·exact .slice _ _ _ (hD g rfl)
theorem c3h{Z:Zone}{o:Option Nat}(h:∀x,o=some x->Z.D x):VP Z (a4S o):=by
 cases o with
 | none=>exact .pnil
 | some x=>exact .ptr _ (h x rfl)
theorem b2m{Z:Zone}{r:Nat}{l:List (Nm×Nat)}(h:a3B w r l)(hl:∀p∈l,Z.D p.2){o:Obj}(ho:w.heap[r]?=some o):ObjP Z o:=by
 obtain⟨es,clock,h1,h2,-⟩:=h;rw[h1] at ho;injection ho with ho;subst ho;refine .map _ _ fun e he=>?_;have hm:(e.key,e.val)∈l.map fun p=>(strV p.1,y8 p.2):=by rw[<-h2];exact List.mem_map_of_mem (by simpa using he)
 obtain⟨p,hp,e1⟩:=List.mem_map.1 hm;injection e1 with e1 e2;rw[<-e1,<-e2];exact⟨.string _,.ptr _ (hl p hp)⟩
theorem DiskRep.core_obj(h:DiskRep w F a m1 m2 mv gs dv d){Z:Zone}(hZ:∀b,Core a m1 m2 mv gs dv d.ids b->Z.D b){b:Nat}(hb:Core a m1 m2 mv gs dv d.ids b){o:Obj}(ho:w.heap[b]?=some o):ObjP Z o:=by
 have hx:∀x∈d.ids,Z.D x:=fun x hx=>hZ x (.inr (.inr (.inr (.inr (.inr ⟨x,hx,.inl rfl⟩)))));have hg:∀g∈gs,Z.D g:=fun g hg=>hZ g (.inr (.inr (.inr (.inl hg))));rcases hb with rfl|rfl|rfl|hb|hb|⟨x,hxi,rfl|hb⟩
 ·have hbx:=h.box;unfold o7 at hbx;rw[hbx] at ho;injection ho with ho;subst ho;refine .cells _ _ _ fun v hv=>?_;simp at hv;rcases hv with rfl|rfl|rfl|rfl|rfl|rfl
  ·exact .map _ (hZ _ (.inr (.inl rfl)))
  ·exact .map _ (hZ _ (.inr (.inr (.inl rfl))))
  ·exact b06 h.outer fun b hb=>hZ b (.inr (.inr (.inr (.inr (.inl hb)))))
  ·exact .int _ _
  ·exact .int _ _
  ·exact .int _ _
 ·exact b2m h.now (fun p hp=>hx _ (h.wf.now p hp)) ho
 ·exact b2m h.safe (fun p hp=>hx _ (h.wf.safe p hp)) ho
 ·obtain⟨i,hi⟩:=List.mem_iff_getElem?.1 hb;have hil:i<d.moves.length:=by
   have:=(List.getElem?_eq_some_iff.1 hi).1;rw[<-h.rows.1];exact this
  have hl:d.moves[i]?=some d.moves[i]:=List.getElem?_eq_getElem hil;have hr:=h.rows.2 i b _ hi hl;unfold a0z o7 at hr;rw[hr] at ho;injection ho with ho;subst ho;refine .cells _ _ _ fun v hv=>?_;have hv':v∈(d.moves[i]).flatMap moveCells:=by simpa using hv
  obtain⟨m,hm,hv'⟩:=List.mem_flatMap.1 hv';have hv2:v=strV m.1\/v=a4S m.2:=by simpa [moveCells] using hv'
  rcases hv2 with rfl|rfl
  ·exact .string _
  ·exact c3h fun f hf=>hx f (h.wf.moves _ (List.mem_of_getElem? hl) m hm f hf)
 ·rcases h.outer.2 with⟨e,_⟩|⟨g,cap,cur,e,_,hc,_⟩
  ·rw[e] at hb;cases hb
  ·obtain rfl:g=b:=by rw[e] at hb;simpa [Value.ownBlock] using hb
   rw[hc] at ho;injection ho with ho;subst ho;refine .cells _ _ _ fun v hv=>?_;rcases h.outf g cur _ _ (by rw[e];rfl) hc v hv with rfl|⟨q,n,hq,rfl⟩
   ·exact .snil _ _
   ·exact .slice _ _ _ (hg q hq)
 ·have hbx:=(h.file _ hxi).1;unfold o7 at hbx;rw[hbx] at ho;injection ho with ho;subst ho;refine .cells _ _ _ fun v hv=>?_;simp at hv;rcases hv with rfl|rfl
  ·exact b06 (h.file _ hxi).2 fun q hq=>hZ q (.inr (.inr (.inr (.inr (.inr ⟨_,hxi,.inr hq⟩)))))
  ·exact .int _ _
 ·rcases(h.file x hxi).2.2 with⟨e,_⟩|⟨g,cap,cur,e,_,hc,_⟩
  ·rw[e] at hb;cases hb
  ·obtain rfl:g=b:=by rw[e] at hb;simpa [Value.ownBlock] using hb
   rw[hc] at ho;injection ho with ho;subst ho;refine .cells _ _ _ fun v hv=>?_;obtain⟨k,rfl⟩:=h.flat x hxi g cur _ _ (by rw[e];rfl) hc v hv;exact .int _ _
def Shun(a m1 m2:Nat)(mv:Value)(gs:List Nat)(dv:Nat->Value)(ids:List Nat)(n b:Nat):Prop:=b<n/\7<b/\¬Core a m1 m2 mv gs dv ids b
theorem DiskRep.vp(h:DiskRep w F a m1 m2 mv gs dv d):VP (Zf zone (Shun a m1 m2 mv gs dv d.ids w.heap.size) w.heap.size) (y8 a):=
 .ptr _ ⟨h.low a h.fa,fun hs=>hs.2.2 (.inl rfl)⟩
end
end
section
open Go.RowKit Go.Lib Go.Maps Dk
open Zn (VP ObjP Zf WPs Zone Le)
def a96(fv:Value)(rows:List (Nm×Value))(b:Nat):Prop:=fv.ownBlock=some b\/∃p∈rows,p.2.ownBlock=some b
section
variable{w:World}{F:Nat->Prop}{a m1 m2 B:Nat}{mv:Value}{gs:List Nat}{dv:Nat->Value}{d:D}{fv:Value}{rows:List (Nm×Value)}{l:Fl}
theorem a0d.own(h:a0d w B fv rows l){p:Nm×Value}(hp:p∈rows):∃q:List UInt8,OwnB w B p.2 q:=by
 obtain⟨i,hi⟩:=List.getElem?_of_mem hp;have hil:i<l.length:=by have:=(List.getElem?_eq_some_iff.1 hi).1;have:=h.2.1;omega
 exact⟨_,(h.2.2.1 i p _ hi (List.getElem?_eq_getElem hil)).2⟩
theorem b8H(h:a0d w B fv rows l){Z:Zone}(hZ:∀b,a96 fv rows b->Z.D b){b:Nat}(hb:a96 fv rows b){o:Obj}(ho:w.heap[b]?=some o):ObjP Z o:=by
 rcases hb with hb|⟨p,hp,hb⟩
 ·rcases h.1.2 with⟨e,_⟩|⟨g,cap,cur,e,_,hc,_⟩
  ·rw[e] at hb;cases hb
  ·obtain rfl:g=b:=by rw[e] at hb;simpa [Value.ownBlock] using hb
   rw[hc] at ho;injection ho with ho;subst ho;refine .cells _ _ _ fun v hv=>?_;rcases h.2.2.2.1 g cur _ _ (by rw[e];rfl) hc v hv with⟨s,rfl⟩|rfl|⟨p,hp,rfl⟩
   ·exact .string _
   ·exact .snil _ _
   ·obtain⟨q,hq⟩:=h.own hp;exact b06 hq fun b hb=>hZ b (.inr ⟨p,hp,hb⟩)
 ·obtain⟨q,hq⟩:=h.own hp;rcases hq.2 with⟨e,_⟩|⟨g,cap,cur,e,_,hc,_⟩
  ·rw[e] at hb;cases hb
  ·obtain rfl:g=b:=by rw[e] at hb;simpa [Value.ownBlock] using hb
   rw[hc] at ho;injection ho with ho;subst ho;refine .cells _ _ _ fun v hv=>?_;obtain⟨k,rfl⟩:=h.2.2.2.2 p hp g cur _ _ (by rw[e];rfl) hc v hv;exact .int _ _
def a5l(a m1 m2:Nat)(mv:Value)(gs:List Nat)(dv:Nat->Value)(ids:List Nat)(fv:Value)(rows:List (Nm×Value))(n b:Nat):Prop:=b<n/\7<b/\¬Core a m1 m2 mv gs dv ids b/\¬a96 fv rows b
theorem DiskRep.wpsR(h:DiskRep w F a m1 m2 mv gs dv d)(hR:a0d w B fv rows l)(hbase:∀b o,b<=7->w.heap[b]?=some o->ObjP zone o)(h7:7<w.heap.size):
 WPs zone (a5l a m1 m2 mv gs dv d.ids fv rows w.heap.size) w/\VP (Zf zone (a5l a m1 m2 mv gs dv d.ids fv rows w.heap.size) w.heap.size) (y8 a)/\VP (Zf zone (a5l a m1 m2 mv gs dv d.ids fv rows w.heap.size) w.heap.size) fv:=by
 have hle:Le zone (Zf zone (a5l a m1 m2 mv gs dv d.ids fv rows w.heap.size) w.heap.size):=⟨rfl,rfl,rfl,fun b(hb:b<=7)=>⟨by omega,fun hs=>by have:=hs.2.1;omega⟩⟩;have hlt:∀b,a96 fv rows b->b<w.heap.size:=fun b hb=>by
  rcases hb with hb|⟨p,hp,hb⟩
  ·exact a3O hR.1 hb
  ·obtain⟨q,hq⟩:=hR.own hp;exact a3O hq hb
 have hZc:∀b,Core a m1 m2 mv gs dv d.ids b->(Zf zone (a5l a m1 m2 mv gs dv d.ids fv rows w.heap.size) w.heap.size).D b:=fun q hq=>show _/\_ from⟨h.low q (h.core_sub hq),fun hs=>hs.2.2.1 hq⟩;have hZr:∀b,a96 fv rows b->(Zf zone (a5l a m1 m2 mv gs dv d.ids fv rows w.heap.size) w.heap.size).D b:=fun q hq=>show _/\_ from⟨hlt q hq,fun hs=>hs.2.2.2 hq⟩;refine⟨⟨fun b o hb hn ho=>?_,fun b hb=>hb.1,fun b(hb:b<=7)=>⟨by omega,fun hs=>by have:=hs.2.1;omega⟩⟩,.ptr _ (hZc a (.inl rfl)),b06 hR.1 fun b hb=>hZr b (.inl hb)⟩;rcases Nat.lt_or_ge 7 b with hb7|hb7
 ·by_cases hc:Core a m1 m2 mv gs dv d.ids b
  ·exact h.core_obj hZc hc ho
  ·by_cases hr:a96 fv rows b
   ·exact b8H hR hZr hr ho
   ·exact absurd ⟨hb,hb7,hc,hr⟩ hn
 ·exact(hbase b o hb7 ho).mono hle
end
end
end Go.Proofs.YtgpbhjjajpbeeaaGreatDoor
namespace Go.Nm
section
open Zn (MarkOK HaltOK)
def Nf(P:Program){α:Type}(Q:α->Prop):Sem α->Prop
 | .halt h=>HaltOK h
 | .pure a=>Q a
 | .load _ _ k=>∀v,Nf P Q (k v)
 | .store _ _ _ k=>Nf P Q k
 | .new _ k=>∀r,Nf P Q (k r)
 | .shape _ k=>∀s,Nf P Q (k s)
 | .freeze _ _ k=>Nf P Q k
 | .frozen _ k=>∀b,Nf P Q (k b)
 | .getObj _ k=>∀o,Nf P Q (k o)
 | .setObj _ _ k=>Nf P Q k
 | .choose _ k=>∀n,Nf P Q (k n)
 | .sys c k=>c=.env/\∀r,Nf P Q (k r)
 | .program k=>Nf P Q (k P)
 | .mark m k=>MarkOK m/\Nf P Q k
abbrev Mf(P:Program){α:Type}(s:Sem α):Prop:=Nf P (fun _=>True) s
section
variable{P:Program}
theorem Nf.bind{α β:Type}{R:α->Prop}{Q:β->Prop}{s:Sem α}{f:α->Sem β}(h:Nf P R s)(hf:∀a,R a->Nf P Q (f a)):Nf P Q (s >>= f):=by
 show Nf P Q (s.bind f)
 induction s with
 | halt _=>exact h
 | pure a=>exact hf _ h
 | load m a k ih=>exact fun v=>ih v (h v)
 | store m a v k ih=>exact ih h
 | new o k ih=>exact fun r=>ih r (h r)
 | shape r k ih=>exact fun s=>ih s (h s)
 | freeze a n k ih=>exact ih h
 | frozen a k ih=>exact fun b=>ih b (h b)
 | getObj r k ih=>exact fun o=>ih o (h o)
 | setObj r o k ih=>exact ih h
 | choose q k ih=>exact fun n=>ih n (h n)
 | sys c k ih=>exact⟨h.1,fun r=>ih r (h.2 r)⟩
 | program k ih=>exact ih P h
 | mark m k ih=>exact⟨h.1,ih h.2⟩
theorem l9{α β:Type}{s:Sem α}{f:α->Sem β}(h:Mf P s)(hf:∀a,Mf P (f a)):Mf P (s >>= f):=Nf.bind h fun a _=>hf a
theorem o5{α:Type}(a:α):Mf P (Pure.pure a:Sem α):=trivial
theorem y7{α:Type}(x:String):Mf P (stuck x:Sem α):=trivial
theorem Q8{α:Type}(x:Unsupported)(h:HaltOK (.unsupported x)):Mf P (unsupported x:Sem α):=h
theorem a4W{α:Type}(x:Value):Mf P (goPanic x:Sem α):=trivial
theorem c3J{α β:Type}(f:α->β){s:Sem α}(h:Mf P s):Mf P (Functor.map f s):=by rw[map_eq_pure_bind];exact Nf.bind h fun _ _=>trivial
theorem I9{α:Type}{f:Program->Sem α}(h:Mf P (f P)):Mf P (program >>= f):=h
theorem b9E:Mf P (sys .env):=⟨rfl,fun _=>trivial⟩
theorem b0m:Mf P (mark .noRoom):=⟨trivial,trivial⟩
theorem F6{α:Type}(c:Prop)[Decidable c]{s t:Sem α}(h:Mf P s)(k:Mf P t):Mf P (if c then s else t):=by split<;>assumption
theorem b2I{α β:Type}(l:List α){b:β}{f:α->β->Sem (ForInStep β)}(h:∀x b,Mf P (f x b)):Mf P (forIn l b f):=by
 induction l generalizing b with
 | nil=>exact trivial
 | cons x l ih=>
  rw[List.forIn_cons];refine l9 (h x b) fun s=>?_
  cases s with
  | done b=>exact trivial
  | yield b=>exact ih
theorem a0P{α β:Type}(l:Array α){b:β}{f:α->β->Sem (ForInStep β)}(h:∀x b,Mf P (f x b)):Mf P (forIn l b f):=by
 rw[<-Array.forIn_toList];exact b2I _ h
theorem a1T{β:Type}(r:Std.Legacy.Range){b:β}{f:Nat->β->Sem (ForInStep β)}(h:∀x b,Mf P (f x b)):Mf P (forIn r b f):=by
 rw[Std.Legacy.Range.forIn_eq_forIn_range'];exact b2I _ h
theorem b9F{α β:Type}(f:α->Sem β)(h:∀x,Mf P (f x)):∀l:List α,Mf P (l.mapM f):=by
 intro l
 induction l with
 | nil=>exact trivial
 | cons x l ih=>
  rw[List.mapM_cons];exact l9 (h x) fun y=>l9 ih fun ys=>trivial
theorem b5F{α β:Type}(l:Array α)(f:α->Sem β)(h:∀x,Mf P (f x)):Mf P (l.mapM f):=by
 rw[Array.mapM_eq_mapM_toList];show Mf P (Functor.map List.toArray _);rw[map_eq_pure_bind];exact l9 (b9F f h _) fun ys=>trivial
theorem b0n{α β:Type}(f:β->α->Sem β)(h:∀x y,Mf P (f x y)):∀(l:List α)(b:β),Mf P (l.foldlM f b):=by
 intro l
 induction l with
 | nil=>exact fun _=>trivial
 | cons x l ih=>
  intro b;rw[List.foldlM_cons];exact l9 (h b x) fun y=>ih y
end
end
section
open Zn (MarkOK)
open Go.Extern
set_option linter.unusedVariables false
section
variable{P:Program}
theorem b5H{a:Addr}:Mf P (load a):=fun _=>trivial
theorem b2J{a:Addr}{v:Value}:Mf P (store a v):=trivial
theorem a2P{o:Obj}:Mf P (newObj o):=fun _=>trivial
theorem Y9(r:Nat):Mf P (shape r):=fun _=>trivial
theorem b7a(a:Addr)(n:Nat):Mf P (freeze a n):=trivial
theorem a6n(a:Addr):Mf P (frozen a):=fun _=>trivial
theorem Z4{r:Nat}:Mf P (getObj r):=fun _=>trivial
theorem a6o{r:Nat}{o:Obj}:Mf P (setObj r o):=trivial
theorem O1(q:Question):Mf P (choose q):=fun _=>trivial
theorem a4Y(n:Nat):Mf P (askRoom n):=by
 try unfold askRoom
 repeat' first|assumption|with_reducible (first|exact o5 _|exact b0m|refine F6 _ ?_ ?_)|split|dsimp only|exact trivial
theorem o8(t:TypeId):Mf P (underlying t):=by
 try unfold underlying
 repeat' first|assumption|with_reducible (first|exact y7 _|exact o5 _|refine I9 ?_)|split|dsimp only|exact trivial
theorem J5(t:TypeId):Mf P (typeInfo t):=by
 try unfold typeInfo
 repeat' first|assumption|with_reducible (first|exact y7 _|exact o5 _|refine I9 ?_)|split|dsimp only|exact trivial
theorem L6(t:TypeId):Mf P (sizeOf t):=by
 try unfold sizeOf
 repeat' first|assumption|with_reducible (first|exact o5 _|exact J5 _|refine l9 ?_ fun _=>?_)|split|dsimp only|exact trivial
theorem b2K(t:TypeId):Mf P (isAgg t):=by
 try unfold isAgg
 repeat' first|assumption|with_reducible (first|exact o5 _|exact o8 _|refine l9 ?_ fun _=>?_)|split|dsimp only|exact trivial
theorem a2b(t:TypeId):Mf P (typeStr t):=by
 try unfold typeStr
 repeat' first|assumption|with_reducible (first|refine Q8 _ ?_|exact o5 _|exact J5 _|refine l9 ?_ fun _=>?_|refine F6 _ ?_ ?_)|split|dsimp only|exact trivial
theorem a6p(t:TypeId):Mf P (elemOf t):=by
 try unfold elemOf
 repeat' first|assumption|with_reducible (first|exact y7 _|exact o5 _|exact o8 _|refine l9 ?_ fun _=>?_)|split|dsimp only|exact trivial
theorem U7(t:TypeId):Mf P (zeroValue t):=by
 try unfold zeroValue
 repeat' first|assumption|with_reducible (first|refine Q8 _ ?_|exact o5 _|exact J5 _|refine l9 ?_ fun _=>?_)|split|dsimp only|exact trivial
theorem a6q{a:Addr}(n:Nat):∀(i:Nat)(acc:Array Value),Mf P (loadCellsFrom a i n acc):=by
 induction n with
 | zero=>exact fun _ _=>trivial
 | succ n ih=>exact fun i acc=>l9 (b5H) fun v=>ih _ _
theorem a1J{a:Addr}(n:Nat):Mf P (loadCells a n):=by
 try unfold loadCells
 repeat' first|assumption|with_reducible exact a6q _ _ _|split|dsimp only|exact trivial
theorem a1o{a:Addr}:∀(l:List Value)(i:Nat), Mf P (storeCells a l i):=by
 intro l
 induction l with
 | nil=>
  intros;try unfold storeCells
  repeat' first|assumption|with_reducible (first|exact o5 _|exact b2J|refine l9 ?_ fun _=>?_)|split|dsimp only|exact trivial
 | cons x l ih=>
  intros;try unfold storeCells
  repeat' first|assumption|with_reducible (first|exact o5 _|exact ih _|exact b2J|refine l9 ?_ fun _=>?_)|split|dsimp only|exact trivial
theorem a0L(t:TypeId){a:Addr}:Mf P (loadVar t a):=by
 try unfold loadVar
 repeat' first|assumption|with_reducible (first|exact o5 _|exact b5H|exact L6 _|exact b2K _|exact a1J _|refine l9 ?_ fun _=>?_|refine F6 _ ?_ ?_)|split|dsimp only|exact trivial
theorem a6T(t:TypeId){a:Addr}{v:Value}:Mf P (storeVar t a v):=by
 try unfold storeVar
 repeat' first|assumption|with_reducible (first|exact y7 _|exact L6 _|exact a1o _ _|refine l9 ?_ fun _=>?_|refine F6 _ ?_ ?_)|split|dsimp only|exact trivial
theorem a1e(t:TypeId){c:Array Value}:Mf P (newRow t c):=by
 try unfold newRow
 repeat' first|assumption|with_reducible (first|exact o5 _|exact a2P|refine l9 ?_ fun _=>?_)|split|dsimp only|exact trivial
theorem a1U(t:TypeId){v:Value}:Mf P (newVar t v):=by
 try unfold newVar
 repeat' first|assumption|with_reducible exact a1e _|split|dsimp only|exact trivial
theorem a0I(t:TypeId){c:Array Value}(off:Nat):Mf P (part t c off):=by
 try unfold part
 repeat' first|assumption|with_reducible (first|exact y7 _|exact o5 _|exact L6 _|exact b2K _|refine l9 ?_ fun _=>?_|refine F6 _ ?_ ?_)|split|dsimp only|exact trivial
theorem G6{α:Type}(e:RuntimeError):Mf P (runtimePanic e:Sem α):=by
 try unfold runtimePanic
 repeat' first|assumption|with_reducible (first|exact a4W _|exact a6p _|exact a1U _|refine I9 ?_|refine l9 ?_ fun _=>?_)|split|dsimp only|exact trivial
theorem a2c{α:Type}(k:IntKind)(x y:Int)(c:BoundsCode):Mf P (boundsPanic k x y c:Sem α):=by
 try unfold boundsPanic
 repeat' first|assumption|with_reducible (first|exact o5 _|exact O1 _|exact G6 _|refine l9 ?_ fun _=>?_|refine c3J _ ?_|refine F6 _ ?_ ?_)|split|dsimp only|exact trivial
theorem a3m(v:Value):Mf P (asIntOf v):=by
 try unfold asIntOf
 repeat' first|assumption|with_reducible (first|exact y7 _|refine Q8 _ ?_|exact o5 _)|split|dsimp only|exact trivial
theorem a2Q(v:Value):Mf P (asInt v):=by
 try unfold asInt
 repeat' first|assumption|with_reducible (first|exact o5 _|exact a3m _|refine l9 ?_ fun _=>?_)|split|dsimp only|exact trivial
theorem a4o(v:Value):Mf P (asBool v):=by
 try unfold asBool
 repeat' first|assumption|with_reducible (first|exact y7 _|exact o5 _)|split|dsimp only|exact trivial
theorem b9G{v:Value}:Mf P (asAgg v):=by
 try unfold asAgg
 repeat' first|assumption|with_reducible (first|exact y7 _|exact o5 _)|split|dsimp only|exact trivial
theorem a2R{v:Value}:Mf P (asAddr v):=by
 try unfold asAddr
 repeat' first|assumption|with_reducible (first|exact y7 _|exact o5 _|exact G6 _)|split|dsimp only|exact trivial
theorem a1w{v:Value}:Mf P (Instr.sureAddr v):=by
 try unfold Instr.sureAddr
 repeat' first|assumption|with_reducible (first|exact y7 _|exact o5 _)|split|dsimp only|exact trivial
theorem a6r{r:Nat}:Mf P (viewAt r):=by
 try unfold viewAt
 repeat' first|assumption|with_reducible (first|exact o5 _|exact Y9 _|exact Z4|refine l9 ?_ fun _=>?_|refine F6 _ ?_ ?_)|split|dsimp only|exact trivial
theorem a6U{r:Nat}:Mf P (numberAt r):=by
 try unfold numberAt
 repeat' first|assumption|with_reducible (first|exact o5 _|exact Y9 _|exact Z4|refine l9 ?_ fun _=>?_|refine F6 _ ?_ ?_)|split|dsimp only|exact trivial
theorem a0J{a:Addr}:Mf P (behindNumber a):=by
 try unfold behindNumber
 repeat' first|assumption|with_reducible (first|exact o5 _|exact a6U|refine l9 ?_ fun _=>?_)|split|dsimp only|exact trivial
theorem a6V{a:Addr}(l:Bool):Mf P (asNumber a l):=by
 try unfold asNumber
 repeat' first|assumption|with_reducible (first|exact o5 _|exact a2P|refine l9 ?_ fun _=>?_)|split|dsimp only|exact trivial
theorem b0o{a:Addr}:Mf P (noView a):=by
 try unfold noView
 repeat' first|assumption|with_reducible (first|refine Q8 _ ?_|exact o5 _|exact a6r|refine l9 ?_ fun _=>?_|refine F6 _ ?_ ?_)|split|dsimp only|exact trivial
theorem a2S(a:Addr):Mf P (markStringish a):=by
 try unfold markStringish
 repeat' first|assumption|with_reducible (first|exact o5 _|exact Y9 _|exact b7a _ _|refine l9 ?_ fun _=>?_)|split|dsimp only|exact trivial
theorem b1m(a:Addr):Mf P (stringish a):=by
 try unfold stringish
 repeat' first|assumption|with_reducible (first|exact o5 _|exact Y9 _|exact a6n _|refine l9 ?_ fun _=>?_|refine F6 _ ?_ ?_)|split|dsimp only|exact trivial
theorem b2L(a b:Addr):Mf P (mayBeOne a b):=by
 try unfold mayBeOne
 repeat' first|assumption|with_reducible (first|exact o5 _|exact Y9 _|exact b1m _|refine l9 ?_ fun _=>?_)|split|dsimp only|exact trivial
theorem a3T{a b:Addr}:Mf P (sameAddr a b):=by
 try unfold sameAddr
 repeat' first|assumption|with_reducible (first|refine Q8 _ ?_|exact o5 _|exact a6n _|exact O1 _|exact b0o|exact b2L _ _|refine l9 ?_ fun _=>?_|refine F6 _ ?_ ?_)|split|dsimp only|exact trivial
theorem b4i{r:Nat}:Mf P (cellsIn r):=by
 try unfold cellsIn
 repeat' first|assumption|with_reducible (first|exact o5 _|exact Y9 _|exact Z4|refine l9 ?_ fun _=>?_)|split|dsimp only|exact trivial
theorem a2T{a:Addr}:Mf P (byteOf a):=by
 try unfold byteOf
 repeat' first|assumption|with_reducible (first|exact y7 _|exact o5 _|exact Y9 _|exact b0o|refine I9 ?_|refine l9 ?_ fun _=>?_|refine F6 _ ?_ ?_)|split|dsimp only|exact trivial
theorem b7b{a:Addr}(c b:Nat):Mf P (partAt a c b):=by
 try unfold partAt
 repeat' first|assumption|with_reducible (first|exact o5 _|exact a2T|refine l9 ?_ fun _=>?_)|split|dsimp only|exact trivial
theorem a2B{a:Addr}(f:Field):Mf P (fieldPlace a f):=by
 try unfold fieldPlace
 repeat' first|assumption|with_reducible (first|exact o5 _|exact L6 _|exact b7b _ _|refine l9 ?_ fun _=>?_|refine F6 _ ?_ ?_)|split|dsimp only|exact trivial
theorem a8z(a:Addr)(u:TypeId)(n:Nat):Mf P (variablesAt a u n):=by
 try unfold variablesAt
 repeat' first|assumption|with_reducible (first|exact o5 _|exact Y9 _|refine I9 ?_|refine l9 ?_ fun _=>?_)|split|dsimp only|exact trivial
theorem b9H(t:TypeId):Mf P (Instr.alloc t true (.tuple #[])):=by
 try unfold Instr.alloc
 repeat' first|assumption|with_reducible (first|exact o5 _|exact U7 _|exact a1U _|refine l9 ?_ fun _=>?_)|split|dsimp only|exact trivial
theorem c3N(t:TypeId){v:Value}:Mf P (Instr.box t v):=by
 try unfold Instr.box
 repeat' first|assumption|with_reducible (first|exact o5 _|exact a1U _|refine l9 ?_ fun _=>?_)|split|dsimp only|exact trivial
theorem b9I(t:TypeId){parts:Array (Nat×Value)}:Mf P (Instr.build t parts):=by
 try unfold Instr.build
 repeat' first|assumption|with_reducible (first|exact y7 _|exact o5 _|exact o8 _|exact L6 _|exact U7 _|refine l9 ?_ fun _=>?_|refine b5F _ _ fun _=>?_)|split|dsimp only|exact trivial
theorem a9o(t:TypeId)(len:Nat){parts:Array (Nat×Value)}:Mf P (Instr.buildSlice t len parts):=by
 try unfold Instr.buildSlice
 repeat' first|assumption|with_reducible (first|exact y7 _|refine Q8 _ ?_|exact o5 _|exact o8 _|exact L6 _|exact U7 _|exact a1e _|refine l9 ?_ fun _=>?_|refine F6 _ ?_ ?_)|split|dsimp only|exact trivial
theorem b7c(t:TypeId){a:Value}:Mf P (Instr.loadAt t a):=by
 try unfold Instr.loadAt
 repeat' first|assumption|with_reducible (first|exact a0L _|exact a1w|refine l9 ?_ fun _=>?_)|split|dsimp only|exact trivial
theorem b4j(t:TypeId){a v:Value}:Mf P (Instr.storeAt t a v):=by
 try unfold Instr.storeAt
 repeat' first|assumption|with_reducible (first|exact a6T _|exact a1w|refine l9 ?_ fun _=>?_)|split|dsimp only|exact trivial
theorem b4k(s:TypeId){a:Value}(f:Nat):Mf P (Instr.fieldAt s a f):=by
 try unfold Instr.fieldAt
 repeat' first|assumption|with_reducible (first|exact y7 _|exact o5 _|exact o8 _|exact a1w|exact a2B _|refine l9 ?_ fun _=>?_)|split|dsimp only|exact trivial
theorem b4l(t:TypeId){x:Value}(i:Value):Mf P (Instr.indexAt t x i):=by
 try unfold Instr.indexAt
 repeat' first|assumption|with_reducible (first|exact y7 _|refine Q8 _ ?_|exact o5 _|exact o8 _|exact L6 _|exact a2c _ _ _ _|exact a3m _|exact a1w|refine l9 ?_ fun _=>?_|refine F6 _ ?_ ?_)|split|dsimp only|exact trivial
theorem a9p(x:Value)(y:Nat)(c:BoundsCode):Mf P (Instr.sliceBound x y c):=by
 try unfold Instr.sliceBound
 repeat' first|assumption|with_reducible (first|exact o5 _|exact a2c _ _ _ _|exact a3m _|refine l9 ?_ fun _=>?_|refine F6 _ ?_ ?_)|split|dsimp only|exact trivial
theorem a3U(s:Bool)(len cap:Nat)(low high max:Option Value):Mf P (Instr.sliceBounds s len cap low high max):=by
 try unfold Instr.sliceBounds
 repeat' first|assumption|with_reducible (first|exact y7 _|exact o5 _|exact a9p _ _ _|refine l9 ?_ fun _=>?_)|split|dsimp only|exact trivial
theorem b9J(t:TypeId){x:Value}(low high max:Option Value):Mf P (Instr.slice t x low high max):=by
 try unfold Instr.slice
 repeat' first|assumption|with_reducible (first|exact y7 _|exact o5 _|exact o8 _|exact L6 _|exact a2R|exact a3U _ _ _ _ _ _|refine l9 ?_ fun _=>?_|refine F6 _ ?_ ?_)|split|dsimp only|exact trivial
theorem b4m(t:TypeId){x:Value}(low high max:Option Value):Mf P (Instr.sliceAt t x low high max):=by
 try unfold Instr.sliceAt
 repeat' first|assumption|with_reducible (first|exact o5 _|exact o8 _|exact L6 _|exact a1w|exact a3U _ _ _ _ _ _|exact b9J _ _ _ _|refine l9 ?_ fun _=>?_)|split|dsimp only|exact trivial
theorem a6s(t:TypeId){v:Value}:Mf P (Instr.makeInterface t v):=by
 try unfold Instr.makeInterface
 repeat' first|assumption|with_reducible (first|exact y7 _|exact o5 _|exact o8 _|refine l9 ?_ fun _=>?_)|split|dsimp only|exact trivial
theorem b2M{fn:Fn}{a b:Array Value}:Mf P (Instr.makeFunc fn a b):=by
 try unfold Instr.makeFunc
 repeat' first|assumption|with_reducible exact o5 _|split|dsimp only|exact trivial
theorem b4n(t:TypeId)(r:Option Value):Mf P (Instr.makeMap t r):=by
 try unfold Instr.makeMap
 repeat' first|assumption|with_reducible (first|exact y7 _|exact o5 _|exact a2P|exact o8 _|exact a2Q _|refine l9 ?_ fun _=>?_)|split|dsimp only|exact trivial
theorem b1n(t:TypeId)(l c:Value):Mf P (Instr.makeSlice t l c):=by
 try unfold Instr.makeSlice
 repeat' first|assumption|with_reducible (first|exact y7 _|exact o5 _|exact O1 _|exact a4Y _|exact o8 _|exact J5 _|exact L6 _|exact U7 _|exact a1e _|exact G6 _|exact a2Q _|refine l9 ?_ fun _=>?_|refine F6 _ ?_ ?_)|split|dsimp only|exact trivial
theorem b9K(t:TypeId){x:Value}(f:Nat):Mf P (Instr.field t x f):=by
 try unfold Instr.field
 repeat' first|assumption|with_reducible (first|exact y7 _|exact o8 _|exact a0I _ _|exact b9G|refine l9 ?_ fun _=>?_)|split|dsimp only|exact trivial
theorem b9L(t:TypeId){x:Value}(i:Value):Mf P (Instr.index t x i):=by
 try unfold Instr.index
 repeat' first|assumption|with_reducible (first|exact y7 _|exact o5 _|exact o8 _|exact L6 _|exact a0I _ _|exact a2c _ _ _ _|exact a3m _|refine l9 ?_ fun _=>?_|refine F6 _ ?_ ?_)|split|dsimp only|exact trivial
theorem b4o{x:Value}(i:Nat):Mf P (Instr.extract x i):=by
 try unfold Instr.extract
 repeat' first|assumption|with_reducible (first|exact y7 _|exact o5 _)|split|dsimp only|exact trivial
theorem b2N:Mf P Instr.panicnil:=by
 unfold Instr.panicnil;refine l9 b9E fun _=>?_;repeat' first|assumption|with_reducible (first|exact y7 _|exact o5 _|exact b9E|refine I9 ?_|refine l9 ?_ fun _=>?_)|split|dsimp only|exact trivial
theorem b2O(x:Value):Mf P (Instr.panic x):=by
 unfold Instr.panic;split
 ·exact trivial
 ·refine l9 b2N fun _=>?_;split
  ·exact trivial
  ·exact G6 _
 all_goals exact trivial
theorem a9q{x:Value}(t u:TypeId)(ok:Bool):Mf P (Instr.typeAssert x t u ok):=by
 try unfold Instr.typeAssert
 repeat' first|assumption|with_reducible (first|exact y7 _|exact o5 _|exact o8 _|exact J5 _|exact U7 _|exact G6 _|refine l9 ?_ fun _=>?_|refine F6 _ ?_ ?_)|split|dsimp only|exact trivial
theorem a6W(op:BinOp)(k:IntKind)(x y:Int):Mf P (Op.intArith op k x y):=by
 try unfold Op.intArith
 repeat' first|assumption|with_reducible (first|exact y7 _|exact o5 _)|split|dsimp only|exact trivial
theorem a8A(op:BinOp)(k:IntKind)(x y:Int):Mf P (Op.intBits op k x y):=by
 try unfold Op.intBits
 repeat' first|assumption|with_reducible (first|exact y7 _|exact o5 _)|split|dsimp only|exact trivial
theorem b7d(op:BinOp)(x y:Int):Mf P (Op.intCmp op x y):=by
 try unfold Op.intCmp
 repeat' first|assumption|with_reducible (first|exact y7 _|exact o5 _)|split|dsimp only|exact trivial
theorem b7e(op:BinOp)(k:IntKind)(x y:Int):Mf P (Op.intDiv op k x y):=by
 try unfold Op.intDiv
 repeat' first|assumption|with_reducible (first|exact y7 _|exact o5 _|exact G6 _|refine F6 _ ?_ ?_)|split|dsimp only|exact trivial
theorem b9M(op:BinOp)(k:IntKind)(x:Int)(k':IntKind)(y:Int):Mf P (Op.shift op k x k' y):=by
 try unfold Op.shift
 repeat' first|assumption|with_reducible (first|exact y7 _|exact o5 _|exact G6 _|refine F6 _ ?_ ?_)|split|dsimp only|exact trivial
theorem a3V(op:BinOp)(x y:ByteArray):Mf P (Op.stringOp op x y):=by
 try unfold Op.stringOp
 repeat' first|assumption|with_reducible (first|exact y7 _|refine Q8 _ ?_|exact o5 _|refine F6 _ ?_ ?_)|split|dsimp only|exact trivial
theorem a4J(op:BinOp)(k:FloatKind)(x y:Nat):Mf P (Op.floatArith op k x y):=by
 try unfold Op.floatArith
 repeat' first|assumption|with_reducible (first|exact y7 _|exact o5 _|exact O1 _|refine l9 ?_ fun _=>?_)|split|dsimp only|exact trivial
theorem a6X(op:BinOp)(k:FloatKind)(x y:Nat):Mf P (Op.floatCmp op k x y):=by
 try unfold Op.floatCmp
 repeat' first|assumption|with_reducible (first|exact y7 _|exact o5 _)|split|dsimp only|exact trivial
theorem a9r(k:FloatKind)(b:Nat)(d:IntKind):Mf P (Conv.floatToInt k b d):=by
 try unfold Conv.floatToInt
 repeat' first|assumption|with_reducible (first|exact o5 _|exact O1 _|refine l9 ?_ fun _=>?_|refine F6 _ ?_ ?_)|split|dsimp only|exact trivial
theorem a1F(k:FloatKind)(b:Nat)(d:FloatKind):Mf P (Conv.floatToFloat k b d):=by
 try unfold Conv.floatToFloat
 repeat' first|assumption|with_reducible (first|exact o5 _|exact O1 _|refine l9 ?_ fun _=>?_|refine F6 _ ?_ ?_)|split|dsimp only|exact trivial
theorem a3E(src:FloatKind)(x:Nat)(dst:FloatKind):Mf P (Op.Complex.conv src x dst):=by
 try unfold Op.Complex.conv
 repeat' first|assumption|with_reducible (first|exact y7 _|exact o5 _|exact a1F _ _ _|refine l9 ?_ fun _=>?_|refine F6 _ ?_ ?_)|split|dsimp only|exact trivial
theorem a0Q(op:BinOp)(k:FloatKind)(x y:Nat):Mf P (Op.Complex.arith op k x y):=by
 try unfold Op.Complex.arith
 repeat' first|assumption|with_reducible (first|exact y7 _|exact o5 _|exact a4J _ _ _ _|refine l9 ?_ fun _=>?_)|split|dsimp only|exact trivial
theorem a5z(op:BinOp)(k:FloatKind)(x y:Nat):Mf P (Op.Complex.cmp op k x y):=by
 try unfold Op.Complex.cmp
 repeat' first|assumption|with_reducible (first|exact a4o _|exact a6X _ _ _ _|refine l9 ?_ fun _=>?_)|split|dsimp only|exact trivial
theorem a01(x y:Nat):Mf P (Op.Complex.mul x y):=a0Q _ _ _ _
theorem b1o(x y:Nat):Mf P (Op.Complex.add x y):=a0Q _ _ _ _
theorem b1p(x y:Nat):Mf P (Op.Complex.sub x y):=a0Q _ _ _ _
theorem c1M(x y:Nat):Mf P (Op.Complex.quo x y):=a0Q _ _ _ _
theorem a8B(a b c d:Nat):Mf P (Op.Complex.product a b c d):=by
 unfold Op.Complex.product;exact l9 (a01 _ _) fun _=>l9 (a01 _ _) fun _=>l9 (b1p _ _) fun _=>l9 (a01 _ _) fun _=>l9 (a01 _ _) fun _=>l9 (b1o _ _) fun _=>trivial
theorem b1q(s a b c d:Nat):Mf P (Op.Complex.corrected s a b c d):=by
 unfold Op.Complex.corrected;exact l9 (a01 _ _) fun _=>l9 (a01 _ _) fun _=>l9 (b1o _ _) fun _=>l9 (a01 _ _) fun _=>l9 (a01 _ _) fun _=>l9 (a01 _ _) fun _=>l9 (b1p _ _) fun _=>l9 (a01 _ _) fun _=>trivial
theorem a6Y(a b c d:Nat):Mf P (Op.Complex.quotient a b c d):=by
 unfold Op.Complex.quotient;dsimp only
 repeat' first
  | with_reducible exact o5 _
  | with_reducible exact b1q _ _ _ _ _
  | with_reducible refine l9 (a5z _ _ _ _) fun _=>?_
  | with_reducible refine l9 (a01 _ _) fun _=>?_
  | with_reducible refine l9 (b1o _ _) fun _=>?_
  | with_reducible refine l9 (b1p _ _) fun _=>?_
  | with_reducible refine l9 (c1M _ _) fun _=>?_
  | with_reducible refine l9 (o5 _) fun _=>?_
  | split
theorem b1s(op:BinOp)(k:FloatKind)(a b c d:Nat):Mf P (Op.complexOp op k a b c d):=by
 unfold Op.complexOp;split
 ·exact l9 (a0Q _ _ _ _) fun _=>l9 (a0Q _ _ _ _) fun _=>trivial
 ·exact l9 (a0Q _ _ _ _) fun _=>l9 (a0Q _ _ _ _) fun _=>trivial
 ·refine l9 (a3E _ _ _) fun _=>l9 (a3E _ _ _) fun _=>l9 (a3E _ _ _) fun _=>l9 (a3E _ _ _) fun _=>l9 ?_ fun _=>l9 (a3E _ _ _) fun _=>l9 (a3E _ _ _) fun _=>trivial;first|exact a8B _ _ _ _|exact a6Y _ _ _ _
 ·refine l9 (a3E _ _ _) fun _=>l9 (a3E _ _ _) fun _=>l9 (a3E _ _ _) fun _=>l9 (a3E _ _ _) fun _=>l9 ?_ fun _=>l9 (a3E _ _ _) fun _=>l9 (a3E _ _ _) fun _=>trivial;first|exact a8B _ _ _ _|exact a6Y _ _ _ _
 ·exact l9 (a5z _ _ _ _) fun _=>l9 (a5z _ _ _ _) fun _=>trivial
 ·exact l9 (a5z _ _ _ _) fun _=>l9 (a5z _ _ _ _) fun _=>trivial
 ·exact trivial
theorem b9N(op:UnOp)(x:Value):Mf P (Op.unary op x):=by
 try unfold Op.unary
 repeat' first|assumption|with_reducible (first|exact y7 _|refine Q8 _ ?_|exact o5 _|exact a6W _ _ _ _|exact a8A _ _ _ _)|split|dsimp only|exact trivial
theorem a3W{a b:Option Addr}:Mf P (samePointer a b):=by
 try unfold samePointer
 repeat' first|assumption|with_reducible (first|exact o5 _|exact a3T)|split|dsimp only|exact trivial
theorem b4p :∀(n:Nat)(t:TypeId)(x y:Value),  Mf P (Op.equalIn n t x y):=by
 intro n
 induction n with
 | zero=>
  intros;try unfold Op.equalIn
  repeat' first|assumption|with_reducible (first|exact y7 _|refine Q8 _ ?_|exact o5 _|exact O1 _|exact o8 _|exact J5 _|exact L6 _|exact a2b _|exact a0I _ _|exact G6 _|exact a0J|exact a3T|exact a2T|exact a3W|refine I9 ?_|refine l9 ?_ fun _=>?_|refine F6 _ ?_ ?_|refine a0P _ fun _ _=>?_|refine a1T _ fun _ _=>?_)|split|dsimp only|exact trivial
 | succ n ih=>
  intros;try unfold Op.equalIn
  repeat' first|assumption|with_reducible (first|exact y7 _|refine Q8 _ ?_|exact o5 _|exact ih _ _ _|exact O1 _|exact o8 _|exact J5 _|exact L6 _|exact a2b _|exact a0I _ _|exact G6 _|exact a0J|exact a3T|exact a2T|exact a3W|refine I9 ?_|refine l9 ?_ fun _=>?_|refine F6 _ ?_ ?_|refine a0P _ fun _ _=>?_|refine a1T _ fun _ _=>?_)|split|dsimp only|exact trivial
theorem a8C(t:TypeId){x y:Value}:Mf P (Op.equal t x y):=by
 try unfold Op.equal
 repeat' first|assumption|with_reducible exact b4p _ _ _ _|split|dsimp only|exact trivial
theorem b1t :∀(n:Nat)(t:TypeId)(x y:Value),  Mf P (Op.eqGuardIn n t x y):=by
 intro n
 induction n with
 | zero=>
  intros;try unfold Op.eqGuardIn
  repeat' first|assumption|with_reducible (first|refine Q8 _ ?_|exact o5 _|exact o8 _|exact L6 _|exact a0I _ _|refine l9 ?_ fun _=>?_|refine F6 _ ?_ ?_|refine a0P _ fun _ _=>?_|refine a1T _ fun _ _=>?_)|split|dsimp only|exact trivial
 | succ n ih=>
  intros;try unfold Op.eqGuardIn
  repeat' first|assumption|with_reducible (first|refine Q8 _ ?_|exact o5 _|exact ih _ _ _|exact o8 _|exact L6 _|exact a0I _ _|refine l9 ?_ fun _=>?_|refine F6 _ ?_ ?_|refine a0P _ fun _ _=>?_|refine a1T _ fun _ _=>?_)|split|dsimp only|exact trivial
theorem b4q(op:BinOp)(t:TypeId)(x y:Operand){a b:Value}:Mf P (eqGuard op t x y a b):=by
 try unfold eqGuard
 repeat' first|assumption|with_reducible (first|refine Q8 _ ?_|exact o5 _|exact b1t _ _ _ _|refine I9 ?_|refine l9 ?_ fun _=>?_|refine F6 _ ?_ ?_)|split|dsimp only|exact trivial
theorem a9s(ts:Array TypeId)(t:TypeId){ptr:Option Addr}(y:Value):Mf P (Builtin.unsafeAdd_ ts t #[.pointer ptr,y]):=by
 unfold Builtin.unsafeAdd_;refine l9 (a2Q _) fun n=>?_;repeat' first|assumption|with_reducible (first|refine Q8 _ ?_|exact o5 _|exact Y9 _|exact a2Q _|exact a6r|refine I9 ?_|refine l9 ?_ fun _=>?_|refine F6 _ ?_ ?_)|split|dsimp only|exact trivial
theorem a5A(ts:Array TypeId)(t:TypeId){args:Array Value}:Mf P (Builtin.unsafeAdd_ ts t args):=by
 obtain⟨l⟩:=args;rcases l with _|⟨x,_|⟨y,_|⟨z,l⟩⟩⟩
 ·exact trivial
 ·cases x<;>exact trivial
 ·cases x with
  | pointer p=>exact a9s ts t y
  | _=>exact trivial
 ·cases x<;>exact trivial
theorem a8D(t:TypeId){x y:Value}:Mf P (movedNumber t x y):=by
 try unfold movedNumber
 repeat' first|assumption|with_reducible (first|refine Q8 _ ?_|exact o5 _|exact o8 _|exact a0J|exact a6V _|exact a5A _ _|refine l9 ?_ fun _=>?_|refine F6 _ ?_ ?_)|split|dsimp only|exact trivial
theorem a7A(t:TypeId){x y:Value}:Mf P (movedPointer t x y):=by
 try unfold movedPointer
 repeat' first|assumption|with_reducible (first|refine Q8 _ ?_|exact a6U|exact a5A _ _|refine l9 ?_ fun _=>?_|refine F6 _ ?_ ?_)|split|dsimp only|exact trivial
theorem a5B{a b:Addr}:Mf P (Op.twoPlaces a b):=by
 try unfold Op.twoPlaces
 repeat' first|assumption|with_reducible (first|refine Q8 _ ?_|exact o5 _|exact a2T|refine I9 ?_|refine l9 ?_ fun _=>?_|refine F6 _ ?_ ?_)|split|dsimp only|exact trivial
theorem b4r(k:IntKind){a b:Addr}:Mf P (Op.addrSub k a b):=by
 try unfold Op.addrSub
 repeat' first|assumption|with_reducible (first|exact o5 _|exact a5B|refine l9 ?_ fun _=>?_)|split|dsimp only|exact trivial
theorem b4s(op:BinOp){a b:Addr}:Mf P (Op.addrCmp op a b):=by
 try unfold Op.addrCmp
 repeat' first|assumption|with_reducible (first|refine Q8 _ ?_|exact o5 _|exact a5B|refine l9 ?_ fun _=>?_)|split|dsimp only|exact trivial
theorem b4t(k:IntKind){a:Addr}(n:Int):Mf P (Op.addrMod k a n):=by
 try unfold Op.addrMod
 repeat' first|assumption|with_reducible (first|refine Q8 _ ?_|exact o5 _|exact Y9 _|exact J5 _|exact a2T|refine l9 ?_ fun _=>?_|refine F6 _ ?_ ?_)|split|dsimp only|exact trivial
theorem b9O(op:BinOp)(t:TypeId){x y:Value}:Mf P (binOp op t x y):=by
 try unfold binOp
 repeat' first|assumption|with_reducible (first|exact y7 _|refine Q8 _ ?_|exact o5 _|exact o8 _|exact a0J|exact a6W _ _ _ _|exact a8A _ _ _ _|exact b7d _ _ _|exact b7e _ _ _ _|exact b9M _ _ _ _ _|exact a3V _ _ _|exact a4J _ _ _ _|exact a6X _ _ _ _|exact b1s _ _ _ _ _ _|exact a8C _|exact a8D _|exact a7A _|exact b4r _|exact b4s _|exact b4t _ _|refine l9 ?_ fun _=>?_|refine F6 _ ?_ ?_)|split|dsimp only|exact trivial
theorem a6t{x:Value}:Mf P (Conv.bytesToString x):=by
 try unfold Conv.bytesToString
 repeat' first|assumption|with_reducible (first|exact y7 _|exact o5 _|exact a1J _|refine l9 ?_ fun _=>?_|refine a0P _ fun _ _=>?_)|split|dsimp only|exact trivial
theorem a6u{x:Value}:Mf P (Conv.runesToString x):=by
 try unfold Conv.runesToString
 repeat' first|assumption|with_reducible (first|exact y7 _|exact o5 _|exact a1J _|refine l9 ?_ fun _=>?_|refine a0P _ fun _ _=>?_)|split|dsimp only|exact trivial
theorem a6v(e:TypeId)(s:ByteArray):Mf P (Conv.stringToBytes e s):=by
 try unfold Conv.stringToBytes
 repeat' first|assumption|with_reducible (first|exact o5 _|exact O1 _|exact a1e _|exact a2S _|refine l9 ?_ fun _=>?_)|split|dsimp only|exact trivial
theorem a6w(e:TypeId)(s:ByteArray):Mf P (Conv.stringToRunes e s):=by
 try unfold Conv.stringToRunes
 repeat' first|assumption|with_reducible (first|exact o5 _|exact O1 _|exact a1e _|refine l9 ?_ fun _=>?_)|split|dsimp only|exact trivial
theorem b7f{a:Addr}:Mf P (Conv.seenAt a):=by
 try unfold Conv.seenAt
 repeat' first|assumption|with_reducible (first|refine Q8 _ ?_|exact o5 _|exact Y9 _|exact a6r|refine I9 ?_|refine l9 ?_ fun _=>?_|refine F6 _ ?_ ?_)|split|dsimp only|exact trivial
theorem a6x(t u:TypeId){x:Value}:Mf P (Conv.unsafePointer t u x):=by
 try unfold Conv.unsafePointer
 repeat' first|assumption|with_reducible (first|exact y7 _|refine Q8 _ ?_|exact o5 _|exact a2P|exact Y9 _|exact o8 _|exact L6 _|exact a6V _|exact b4i|exact a8z _ _ _|exact b7f|refine I9 ?_|refine l9 ?_ fun _=>?_|refine F6 _ ?_ ?_)|split|dsimp only|exact trivial
theorem a4A(s:FloatKind)(a b:Nat)(k:FloatKind):Mf P (Conv.complexToComplex s a b k):=by
 unfold Conv.complexToComplex;repeat' first|assumption|with_reducible (first|exact y7 _|exact o5 _|exact a1F _ _ _|refine l9 ?_ fun _=>?_)|split|dsimp only|exact trivial
theorem b4u(t u:TypeId){x:Value}:Mf P (convert t u x):=by
 unfold convert
 repeat' first
  | with_reducible exact a4A _ _ _ _
  | assumption|with_reducible (first|exact y7 _|refine Q8 _ ?_|exact o5 _|exact o8 _|exact a2S _|exact a9r _ _ _|exact a1F _ _ _|exact a6t|exact a6u|exact a6v _ _|exact a6w _ _|exact a6x _ _|refine l9 ?_ fun _=>?_)|split|dsimp only|exact trivial
theorem a3X(em:Bool):∀(n:Nat)(t:TypeId)(v:Value), Mf P (Instr.checkKey em n t v):=by
 intro n
 induction n with
 | zero=>
  intros;try unfold Instr.checkKey
  repeat' first|assumption|with_reducible (first|exact y7 _|refine Q8 _ ?_|exact o5 _|exact o8 _|exact J5 _|exact L6 _|exact a2b _|exact a0I _ _|exact G6 _|refine l9 ?_ fun _=>?_|refine F6 _ ?_ ?_|refine a0P _ fun _ _=>?_|refine a1T _ fun _ _=>?_)|split|dsimp only|exact trivial
 | succ n ih=>
  intros;try unfold Instr.checkKey
  repeat' first|assumption|with_reducible (first|exact y7 _|refine Q8 _ ?_|exact o5 _|exact ih _ _|exact o8 _|exact J5 _|exact L6 _|exact a2b _|exact a0I _ _|exact G6 _|refine l9 ?_ fun _=>?_|refine F6 _ ?_ ?_|refine a0P _ fun _ _=>?_|refine a1T _ fun _ _=>?_)|split|dsimp only|exact trivial
theorem a9t(t:TypeId){k:Value}:∀(l:List MapEntry)(i:Nat), Mf P (Instr.findAsking t k l i):=by
 intro l
 induction l with
 | nil=>
  intros;try unfold Instr.findAsking
  repeat' first|assumption|with_reducible (first|exact o5 _|exact a8C _|refine l9 ?_ fun _=>?_|refine F6 _ ?_ ?_)|split|dsimp only|exact trivial
 | cons x l ih=>
  intros;try unfold Instr.findAsking
  repeat' first|assumption|with_reducible (first|exact o5 _|exact ih _|exact a8C _|refine l9 ?_ fun _=>?_|refine F6 _ ?_ ?_)|split|dsimp only|exact trivial
theorem a4Z(t:TypeId){k:Value}{l:List MapEntry}:Mf P (Instr.findKey t k l):=by
 try unfold Instr.findKey
 repeat' first|assumption|with_reducible (first|exact o5 _|exact o8 _|exact a9t _ _ _|refine l9 ?_ fun _=>?_)|split|dsimp only|exact trivial
theorem b7g(t:TypeId){x i:Value}(ok:Bool):Mf P (Instr.lookup t x i ok):=by
 try unfold Instr.lookup
 repeat' first|assumption|with_reducible (first|exact y7 _|exact o5 _|exact Z4|exact o8 _|exact U7 _|exact a3X _ _ _ _|exact a4Z _|refine l9 ?_ fun _=>?_)|split|dsimp only|exact trivial
theorem a7B{a b:Value}:Mf P (Instr.keyThatStays a b):=by
 try unfold Instr.keyThatStays
 repeat' first|assumption|with_reducible (first|exact o5 _|exact O1 _|refine l9 ?_ fun _=>?_|refine F6 _ ?_ ?_)|split|dsimp only|exact trivial
theorem a5C(t:TypeId){m k v:Value}:Mf P (Instr.mapUpdate t m k v):=by
 try unfold Instr.mapUpdate
 repeat' first|assumption|with_reducible (first|exact y7 _|exact Z4|exact a6o|exact o8 _|exact G6 _|exact a3X _ _ _ _|exact a4Z _|exact a7B|refine l9 ?_ fun _=>?_)|split|dsimp only|exact trivial
theorem b7h(ts:Array TypeId)(t:TypeId){args:Array Value}:Mf P (Builtin.delete_ ts t args):=by
 try unfold Builtin.delete_
 repeat' first|assumption|with_reducible (first|exact y7 _|exact o5 _|exact Z4|exact a6o|exact o8 _|exact a3X _ _ _ _|exact a4Z _|refine l9 ?_ fun _=>?_)|split|dsimp only|exact trivial
theorem b9P(t:TypeId){x:Value}:Mf P (Instr.range t x):=by
 try unfold Instr.range
 repeat' first|assumption|with_reducible (first|exact y7 _|exact o5 _|exact a2P|exact Z4|exact o8 _|refine l9 ?_ fun _=>?_)|split|dsimp only|exact trivial
theorem c1N{x:Value}(s:Bool)(t:TypeId):Mf P (Instr.next x s t):=by
 try unfold Instr.next
 repeat' first|assumption|with_reducible (first|exact y7 _|refine Q8 _ ?_|exact o5 _|exact Z4|exact a6o|exact O1 _|refine l9 ?_ fun _=>?_|refine F6 _ ?_ ?_)|split|dsimp only|exact trivial
theorem b9Q{x:Value}:Mf P (Instr.entry x):=by
 try unfold Instr.entry
 repeat' first|assumption|with_reducible (first|exact y7 _|refine Q8 _ ?_|exact o5 _|exact Z4|refine l9 ?_ fun _=>?_|refine F6 _ ?_ ?_)|split|dsimp only|exact trivial
theorem a2C(a:Addr)(n:Nat):Mf P (Builtin.holdsCells a n):=by
 try unfold Builtin.holdsCells
 repeat' first|assumption|with_reducible (first|exact o5 _|exact Y9 _|refine l9 ?_ fun _=>?_)|split|dsimp only|exact trivial
theorem a8E(x:Value):Mf P (Builtin.lenOf x):=by
 try unfold Builtin.lenOf
 repeat' first|assumption|with_reducible (first|exact y7 _|exact o5 _)|split|dsimp only|exact trivial
theorem a1p(size n:Nat){x:Value}:Mf P (Builtin.firstCells size n x):=by
 try unfold Builtin.firstCells
 repeat' first|assumption|with_reducible (first|exact y7 _|exact o5 _|exact a1J _)|split|dsimp only|exact trivial
theorem a6Z(size l n:Nat)(base:Option Addr)(x:Value):Mf P (Builtin.mayShare size l n base x):=by
 try unfold Builtin.mayShare
 repeat' first|assumption|with_reducible (first|exact o5 _|exact a6n _|exact a2C _ _|refine l9 ?_ fun _=>?_|refine F6 _ ?_ ?_)|split|dsimp only|exact trivial
theorem a7a(zeros:Bool)(size n:Nat)(elem:TypeId){x:Value}:Mf P (if (!zeros)=true then Builtin.firstCells size n x else if n*size=0 then pure #[] else do pure (Builtin.zeroCells (<-zeroValue elem).cells n)):=by
 repeat' first|assumption|with_reducible (first|exact o5 _|exact U7 _|exact a1p _ _|refine l9 ?_ fun _=>?_|refine F6 _ ?_ ?_)|split|dsimp only|exact trivial
theorem b7i(ts:Array TypeId)(t:TypeId){args:Array Value}:Mf P (Builtin.append_ ts t args):=by
 unfold Builtin.append_;split
 case h_2=>exact trivial
 refine l9 (o8 _) fun d=>?_;split
 case h_2=>exact trivial
 repeat' first
  | with_reducible exact o5 _
  | with_reducible exact y7 _
  | with_reducible refine Q8 _ ?_
  | with_reducible exact o8 _
  | with_reducible refine l9 (o8 _) fun _=>?_
  | with_reducible exact L6 _
  | with_reducible refine l9 (L6 _) fun _=>?_
  | with_reducible exact J5 _
  | with_reducible refine l9 (J5 _) fun _=>?_
  | with_reducible exact a2Q _
  | with_reducible refine l9 (a2Q _) fun _=>?_
  | with_reducible exact a8E _
  | with_reducible refine l9 (a8E _) fun _=>?_
  | with_reducible exact O1 _
  | with_reducible refine l9 (O1 _) fun _=>?_
  | with_reducible exact a4Y _
  | with_reducible refine l9 (a4Y _) fun _=>?_
  | with_reducible exact a6Z _ _ _ _ _
  | with_reducible refine l9 (a6Z _ _ _ _ _) fun _=>?_
  | with_reducible exact U7 _
  | with_reducible refine l9 (U7 _) fun _=>?_
  | with_reducible exact a1p _ _
  | with_reducible refine l9 (a1p _ _) fun _=>?_
  | with_reducible exact a1o _ _
  | with_reducible refine l9 (a1o _ _) fun _=>?_
  | with_reducible exact a1e _
  | with_reducible refine l9 (a1e _) fun _=>?_
  | with_reducible exact G6 _
  | with_reducible refine l9 (G6 _) fun _=>?_
  | with_reducible exact a7a _ _ _ _
  | with_reducible refine l9 (a7a _ _ _ _) fun _=>?_
  | with_reducible exact a2C _ _
  | with_reducible refine l9 (a2C _ _) fun _=>?_
  | with_reducible refine l9 b0m fun _=>?_
  | with_reducible refine l9 (o5 _) fun _=>?_
  | with_reducible refine l9 (F6 _ (G6 _) ?_) fun _=>?_
  | with_reducible refine l9 ?_ fun _=>?_
  | with_reducible refine F6 _ ?_ ?_
  | split
  | dsimp only
  | exact trivial
theorem c1O(ts:Array TypeId)(t:TypeId){args:Array Value}:Mf P (Builtin.copy_ ts t args):=by
 try unfold Builtin.copy_
 repeat' first|assumption|with_reducible (first|exact y7 _|exact o5 _|exact o8 _|exact L6 _|exact a1o _ _|exact a8E _|exact a1p _ _|refine l9 ?_ fun _=>?_)|split|dsimp only|exact trivial
theorem c3O(ts:Array TypeId)(t:TypeId){args:Array Value}:Mf P (Builtin.len_ ts t args):=by
 try unfold Builtin.len_
 repeat' first|assumption|with_reducible (first|exact y7 _|exact o5 _|exact Z4|exact o8 _|refine l9 ?_ fun _=>?_)|split|dsimp only|exact trivial
theorem c3P(ts:Array TypeId)(t:TypeId){args:Array Value}:Mf P (Builtin.cap_ ts t args):=by
 try unfold Builtin.cap_
 repeat' first|assumption|with_reducible (first|exact y7 _|exact o5 _|exact Z4|exact o8 _|refine l9 ?_ fun _=>?_)|split|dsimp only|exact trivial
theorem c1P(x y:Value):Mf P (Builtin.max2 x y):=by
 try unfold Builtin.max2
 repeat' first|assumption|with_reducible (first|exact y7 _|refine Q8 _ ?_|exact o5 _|exact O1 _|exact a4o _|exact a3V _ _ _|refine l9 ?_ fun _=>?_)|split|dsimp only|exact trivial
theorem c1Q(x y:Value):Mf P (Builtin.min2 x y):=by
 try unfold Builtin.min2
 repeat' first|assumption|with_reducible (first|exact y7 _|refine Q8 _ ?_|exact o5 _|exact O1 _|exact a4o _|exact a3V _ _ _|refine l9 ?_ fun _=>?_)|split|dsimp only|exact trivial
theorem c3Q(ts:Array TypeId)(t:TypeId){args:Array Value}:Mf P (Builtin.max_ ts t args):=by
 try unfold Builtin.max_
 repeat' first|assumption|with_reducible (first|exact y7 _|exact c1P _ _|refine b0n _ (fun _ _=>?_) _ _)|split|dsimp only|exact trivial
theorem c3R(ts:Array TypeId)(t:TypeId){args:Array Value}:Mf P (Builtin.min_ ts t args):=by
 try unfold Builtin.min_
 repeat' first|assumption|with_reducible (first|exact y7 _|exact c1Q _ _|refine b0n _ (fun _ _=>?_) _ _)|split|dsimp only|exact trivial
theorem b1u(t:TypeId){x:Place}:Mf P (x.get t):=by
 unfold Place.get;repeat' first|assumption|with_reducible (first|exact o5 _|exact a0L _)|split|dsimp only|exact trivial
theorem b7j :∀(l:List FieldStep)(t:TypeId)(x:Place), Mf P (follow l t x):=by
 intro l
 induction l with
 | nil=>
  intros;try unfold follow
  repeat' first|assumption|with_reducible (first|exact y7 _|exact o5 _|exact o8 _|exact a0I _ _|exact a2R|exact a2B _|exact b1u _|refine l9 ?_ fun _=>?_|refine F6 _ ?_ ?_)|split|dsimp only|exact trivial
 | cons x l ih=>
  intros;try unfold follow
  repeat' first|assumption|with_reducible (first|exact y7 _|exact o5 _|exact ih _ _|exact o8 _|exact a0I _ _|exact a2R|exact a2B _|exact b1u _|refine l9 ?_ fun _=>?_|refine F6 _ ?_ ?_)|split|dsimp only|exact trivial
theorem c1R(t u:TypeId){v:Value}(a b:String):Mf P (Builtin.ssaWrapNilChk_ #[t] u #[v,strVal a,strVal b]):=by
 unfold Builtin.ssaWrapNilChk_
 cases v with
 | pointer p=>
  cases p with
  | some p=>exact trivial
  | none=>
   refine l9 (O1 (.extern "ssa:wrapnilchk.dereferenced" 2)) fun c=>?_;dsimp only
   repeat' first|assumption|with_reducible (first|exact y7 _|refine Q8 _ ?_|exact O1 _|exact o8 _|exact J5 _|exact G6 _|refine l9 ?_ fun _=>?_|refine F6 _ ?_ ?_)|split|dsimp only|exact trivial
 | _=>exact trivial
theorem a9u(t:TypeId){x:Place}(pr:Bool)(w:Option String):Mf P (receiverAt t x pr w):=by
 try unfold receiverAt
 repeat' first|assumption|with_reducible (first|exact y7 _|exact o5 _|exact o8 _|exact a0L _|exact a2R|exact b1u _|exact c1R _ _ _ _|refine l9 ?_ fun _=>?_)|split|dsimp only|exact trivial
theorem a3Y :∀(l:List FieldStep)(t:TypeId)(x:Option Value),Mf P (followBlind l t x):=by
 intro l
 induction l with
 | nil=>
  intros;try unfold followBlind
  repeat' first|assumption|with_reducible (first|exact y7 _|exact o5 _|exact o8 _|exact a0I _ _|refine l9 ?_ fun _=>?_)|split|dsimp only|exact trivial
 | cons x l ih=>
  intros;try unfold followBlind
  repeat' first|assumption|with_reducible (first|exact y7 _|exact o5 _|exact ih _ _|exact o8 _|exact a0I _ _|refine l9 ?_ fun _=>?_)|split|dsimp only|exact trivial
theorem b2P{name:String}:∀(n:Nat)(t:TypeId)(v:Value), Mf P (nilAhead n t v name):=by
 intro n
 induction n with
 | zero=>
  intros;try unfold nilAhead
  repeat' first|assumption|with_reducible (first|exact y7 _|exact o5 _|exact o8 _|exact J5 _|exact a3Y _ _ _|refine l9 ?_ fun _=>?_)|split|dsimp only|exact trivial
 | succ n ih=>
  intros;try unfold nilAhead
  repeat' first|assumption|with_reducible (first|exact y7 _|exact o5 _|exact ih _ _|exact o8 _|exact J5 _|exact a3Y _ _ _|refine l9 ?_ fun _=>?_)|split|dsimp only|exact trivial
end
end
section
open Zn (MarkOK)
variable{P:Program}
def bN:Builtin->Bool
 | .append|.cap|.copy|.delete|.len|.max|.min|.panic=>true
 | _=>false
structure Disc where
 F:FuncId->Prop
 N:String->Prop
def b1w(D:Disc):Callee->Prop
 | .value (.func f)=>D.F f
 | .invoke _ n=>D.N n
 | .builtin b=>bN b=true
 | _=>False
def OpN(D:Disc):Op->Prop
 | .call c=>b1w D c.callee
 | .go _|.defer _|.send .. | .recv .. | .select .. | .makeChan .. | .ready _|.waits _|.mapEntry .. | .entryStore .. | .sliceToArrayPointer ..=>False
 | _=>True
def a8I(D:Disc):Next->Prop
 | .value _=>True
 | .skip=>True
 | .enter f _=>D.F f
 | _=>False
structure PN(D:Disc)(P:Program):Prop where
 methods:∀t i,P.info? t=some i->∀m∈i.methods,D.N m.name->∀f p,m.func=some (f,p)->D.F f
 num:∀f fn,D.F f->P.funcs[f]?=some fn->(fn.name== "runtime.NumGoroutine")=false
 ext:∀f fn,D.F f->P.funcs[f]?=some fn->fn.body=none->Extern.findNext fn=none/\∀e args,Extern.find fn=some e->Mf P (e args)
variable{D:Disc}
theorem a0D{s:Sem Value}(h:Mf P s):Nf P (a8I D) (do pure (.value (<-s))):=Nf.bind h fun _ _=>trivial
theorem c3T{s:Sem Unit}(h:Mf P s):Nf P (a8I D) (do s;pure .skip):=Nf.bind h fun _ _=>trivial
theorem b9T{α:Type}{Q:α->Prop}(e:RuntimeError):Nf P Q (runtimePanic e:Sem α):=by
 unfold runtimePanic;refine Nf.bind (R:=fun p=>p=P) rfl ?_;rintro p rfl;dsimp only
 split<;>first
  | exact trivial
  | exact Nf.bind (a6p _) fun _ _=>Nf.bind (a1U _) fun _ _=>trivial
theorem b4w(b:Builtin)(hb:bN b=true)(ts:Array TypeId)(t:TypeId)(cs:Array Bool){args:Array Value}:Nf P (a8I D) (builtin b ts t cs args):=by
 unfold builtin
 cases b<;>first
  | exact a0D (b7i _ _)
  | exact a0D (c3P _ _)
  | exact a0D (c1O _ _)
  | exact a0D (b7h _ _)
  | exact a0D (c3O _ _)
  | exact a0D (c3Q _ _)
  | exact a0D (c3R _ _)
  | exact a0D (b2O _)
  | cases hb
theorem a7e(hP:PN D P){f:FuncId}(hf:D.F f){args:Array Value}:Nf P (a8I D) (callFunc f args):=by
 unfold callFunc;refine Nf.bind (R:=fun p=>p=P) rfl ?_;rintro p rfl
 cases hfn:p.funcs[f]? with
 | none=>exact trivial
 | some fn=>
  dsimp only;rw[hP.num f fn hf hfn];rw[if_neg (by simp)]
  cases hb:fn.body with
  | some c=>
   rw[if_neg (by simp)]
   exact hf
  | none=>
   obtain⟨h1,h2⟩:=hP.ext f fn hf hfn hb;rw[if_pos (by simp)];refine Nf.bind (R:=fun _=>True) ⟨trivial,trivial⟩ fun _ _=>?_
   cases hn:Extern.findNext fn with
   | some e=>rw[h1] at hn;cases hn
   | none=>
    dsimp only
    cases hx:Extern.find fn with
    | some e=>exact Nf.bind (h2 e args hx) fun v hv=>trivial
    | none=>
     dsimp only;split<;>exact trivial
theorem b7n(hP:PN D P){name:String}(hn:D.N name):∀(n:Nat)(t:TypeId)(v:Value),Nf P (fun r=>D.F r.1) (method n t v name):=by
 intro n
 induction n with
 | zero=>intro t v;exact trivial
 | succ n ih=>
  intro t v;unfold method;refine Nf.bind (R:=fun i=>P.info? t=some i) ?_ fun i hi=>?_
  ·unfold typeInfo;refine Nf.bind (R:=fun p=>p=P) rfl ?_;rintro p rfl;split
   ·assumption
   ·exact trivial
  split
  ·rename_i m hm;have hmem:=Array.mem_of_find?_eq_some hm;have hname:m.name=name:=by have:=Array.find?_some hm;simpa using this
   refine Nf.bind (b7j _ _ _) fun r _=>?_;obtain⟨xt,x⟩:=r;dsimp only;split
   ·refine Nf.bind (b1u _) fun w _=>?_;split
    ·exact ih _ _
    ·exact b9T _
    ·exact trivial
   ·rename_i f pr hf;exact Nf.bind (a9u _ _ _) fun w _=>hP.methods t i hi m hmem (hname▸hn) f pr hf
  ·exact trivial
theorem a9v(hP:PN D P)(recv:Value){name:String}(hn:D.N name){args:Array Value}:Nf P (a8I D) (callMethod recv name args):=by
 unfold callMethod
 cases recv with
 | iface t v=>
  refine Nf.bind (R:=fun _=>True) trivial fun p _=>Nf.bind (b7n hP hn _ _ _) fun r hr=>?_;obtain⟨f,w⟩:=r
  exact a7e hP hr
 | nilIface=>exact b9T _
 | _=>exact trivial
theorem b7o(hP:PN D P){ρ:Operand->Value}{o:Oper}(hk:OpN D o.op)(hρ:∀f,ρ (.func f)=.func (.func f) #[] #[]):Nf P (a8I D) (execOp ρ o):=by
 obtain⟨dst,op,type,pos,after,guard⟩:=o;dsimp only at hk;unfold execOp
 cases op with
 | move x=>exact trivial
 | assign x=>exact trivial
 | pick c a b=>exact Nf.bind (a4o _) fun _ _=>trivial
 | alloc e=>exact a0D (b9H _)
 | box e x=>exact a0D (c3N _)
 | build t ps=>exact a0D (b9I _)
 | buildSlice t l ps=>exact a0D (a9o _ _)
 | load t a=>exact a0D (b7c _)
 | store t a x=>exact c3T (b4j _)
 | nilCheck x=>
  dsimp only;generalize ρ x=v
  repeat' first
   | exact trivial
   | exact b9T _
   | refine Nf.bind (R:=fun _=>True) trivial fun _ _=>?_
   | refine Nf.bind (b2P _ _ _) fun _ _=>?_
   | split
 | binOp op t x y u=>exact a0D (l9 (b4q _ _ _ _) fun _=>b9O _ _)
 | unOp op t x=>exact a0D (b9N _ _)
 | convert s d x=>exact a0D (b4u _ _)
 | makeInterface t x=>exact a0D (a6s _)
 | makeFunc fn f c=>exact a0D b2M
 | makeMap t r=>exact a0D (b4n _ _)
 | makeSlice t l c=>exact a0D (b1n _ _ _)
 | slice t x l h m=>exact a0D (b4m _ _ _ _)
 | fieldAddr s x f=>exact a0D (b4k _ _)
 | field t x f=>exact a0D (b9K _ _)
 | indexAddr t x i=>exact a0D (b4l _ _)
 | index t x i=>exact a0D (b9L _ _)
 | lookup t x i ok=>exact a0D (b7g _ _)
 | mapUpdate t m k x=>exact c3T (a5C _)
 | insert t m k x=>exact c3T (a5C _)
 | range t x=>exact a0D (b9P _)
 | next x s=>exact a0D (c1N _ _)
 | entry x=>exact a0D b9Q
 | typeAssert x t u ok=>exact a0D (a9q _ _ _)
 | extract x i=>exact a0D (b4o _)
 | panic x=>exact a0D (b2O _)
 | call c=>
  replace hk:b1w D c.callee:=hk;refine Nf.bind (R:=fun d=>(∃f l,d.target=.fn (.func f) l/\D.F f)\/(∃n l,d.target=.fn (.method n) l/\D.N n)\/∃b ts t cs,d.target=.builtin b ts t cs/\bN b=true) ?_ ?_
  ·unfold resolve;dsimp only
   cases e:c.callee with
   | builtin b=>rw[e] at hk;exact .inr (.inr ⟨_,_,_,_,rfl,hk⟩)
   | invoke r n=>rw[e] at hk;exact .inr (.inl ⟨_,_,rfl,hk⟩)
   | value x=>
    rw[e] at hk
    cases x with
    | func f=>
     dsimp only;rw[hρ]
     exact .inl ⟨_,_,rfl,hk⟩
    | _=>exact hk.elim
  ·rintro⟨t,args⟩ (⟨f,l,rfl,hf⟩|⟨n,l,rfl,hn⟩|⟨b,ts,t,cs,rfl,hb⟩)
   ·exact a7e hP hf
   ·unfold invoke;dsimp only
    cases e:args[0]? with
    | none=>exact trivial
    | some recv=>exact a9v hP _ hn
   ·exact b4w b hb ts t cs
 | _=>exact hk.elim
end
end Go.Nm
