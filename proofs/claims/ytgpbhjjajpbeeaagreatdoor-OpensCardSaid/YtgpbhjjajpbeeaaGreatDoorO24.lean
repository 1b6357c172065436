/-
  Opens: for any directory (built by the law out of any rows of records) and any keys, the law 'Opens' of the given program answers as its card says, whatever the schedule of its goroutines.
  Conditions: none but the card's own.
-/
import Derived.Test.YtgpbhjjajpbeeaaGreatDoorO23
import Derived.Test.YtgpbhjjajpbeeaaGreatDoorCards
import Derived.Test.YtgpbhjjajpbeeaaGreatDoorTie
import Derived.ProofKit
import Derived.OpenShut
import Derived.Deep.DeepLaidRun
import Derived.Deep.Slices
import Derived.WideKeyArgs
import Derived.LaidLaws
import Derived.LaidHandle
import Derived.Leaving
import Derived.Conc.Holds
import Derived.Lib.LaidTab
import Derived.Lib.SmallJoins
import Derived.SizedLaws
import Derived.Deep.Strs
set_option linter.all false
set_option maxRecDepth 100000
set_option maxHeartbeats 1000000
open Go.Proofs.Tryz
namespace Go.Proofs.YtgpbhjjajpbeeaaGreatDoor
section
open Go.RowKit Go.Lib Go.Maps Dk
open Zn (VP fK Zf jh Zone Le)
def Core(a m1 m2:Nat)(mv:Value)(gs:List Nat)(dv:Nat->Value)(ids:List Nat)(b:Nat):Prop:=
 b=a\/b=m1\/b=m2\/b∈gs\/mv.ownBlock=some b\/∃x∈ids,b=x\/(dv x).ownBlock=some b
section
variable{w:World}{F:Nat->Prop}{a m1 m2:Nat}{mv:Value}{gs:List Nat}{dv:Nat->Value}{d:D}
theorem bQ.yR(h:bQ w F a m1 m2 mv gs dv d){b:Nat}(hb:Core a m1 m2 mv gs dv d.ids b):F b:=by
 rcases hb with rfl|rfl|rfl|hb|hb|⟨x,hx,rfl|hb⟩
 ·exact h.fa
 ·exact h.fm.1
 ·exact h.fm.2
 ·exact h.fg b hb
 ·exact h.fo b hb
 ·exact(h.fx _ hx).1
 ·exact(h.fx x hx).2 b hb
theorem TA{Z:Zone}{B:Nat}{e:TypeId}{size:Nat}{v:Value}{n:Nat}{xs:List Value}(h:w.ownsRow B e size v n xs)(hD:∀b,v.ownBlock=some b->Z.D b):VP Z v:=by
 rcases h.2 with⟨rfl,_⟩|⟨g,cap,cur,rfl,_⟩
 ·exact .gy _ _
 ·exact .slice _ _ _ (hD g rfl)
theorem On{Z:Zone}{o:Option Nat}(h:∀x,o=some x->Z.D x):VP Z (tY o):=by
 cases o with
 | none=>exact .jc
 | some x=>exact .ptr _ (h x rfl)
theorem C2{Z:Zone}{r:Nat}{l:List (Nm×Nat)}(h:xA w r l)(hl:∀p∈l,Z.D p.2){o:Obj}(ho:w.heap[r]?=some o):fK Z o:=by
 obtain⟨es,clock,h1,h2,-⟩:=h;rw[h1] at ho;injection ho with ho;subst ho;refine .map _ _ λe he=>?_;have hm:(e.key,e.val)∈l.map λp=>(bC p.1,o7 p.2):=by rw[<-h2];exact gu (by simpa using he)
 obtain⟨p,hp,e1⟩:=bg.1 hm;injection e1 with e1 e2;rw[<-e1,<-e2];exact⟨.string _,.ptr _ (hl p hp)⟩
theorem bQ.yS(h:bQ w F a m1 m2 mv gs dv d){Z:Zone}(hZ:∀b,Core a m1 m2 mv gs dv d.ids b->Z.D b){b:Nat}(hb:Core a m1 m2 mv gs dv d.ids b){o:Obj}(ho:w.heap[b]?=some o):fK Z o:=by
 have hx:∀x∈d.ids,Z.D x:=λx hx=>hZ x (.inr (.inr (.inr (.inr (.inr ⟨x,hx,.inl rfl⟩)))));have hg:∀g∈gs,Z.D g:=λg hg=>hZ g (.inr (.inr (.inr (.inl hg))));rcases hb with rfl|rfl|rfl|hb|hb|⟨x,hxi,rfl|hb⟩
 ·have hbx:=h.box;unfold o8 at hbx;rw[hbx] at ho;injection ho with ho;subst ho;refine .cells _ _ _ λv hv=>?_;simp at hv;rcases hv with rfl|rfl|rfl|rfl|rfl|rfl
  ·exact .map _ (hZ _ (.inr (.inl rfl)))
  ·exact .map _ (hZ _ (.inr (.inr (.inl rfl))))
  ·exact TA h.outer λb hb=>hZ b (.inr (.inr (.inr (.inr (.inl hb)))))
  ·exact .int _ _
  ·exact .int _ _
  ·exact .int _ _
 ·exact C2 h.now (λp hp=>hx _ (h.wf.now p hp)) ho
 ·exact C2 h.safe (λp hp=>hx _ (h.wf.safe p hp)) ho
 ·obtain⟨i,hi⟩:=gV.1 hb;have hil:i<d.moves.length:=by
   have:=(aT.1 hi).1;rw[<-h.rows.1];exact this
  have hl:d.moves[i]?=some d.moves[i]:=au hil;have hr:=h.rows.2 i b _ hi hl;unfold oH o8 at hr;rw[hr] at ho;injection ho with ho;subst ho;refine .cells _ _ _ λv hv=>?_;have hv':v∈(d.moves[i]).flatMap jT:=by simpa using hv
  obtain⟨m,hm,hv'⟩:=zL.1 hv';have hv2:v=bC m.1\/v=tY m.2:=by simpa [jT] using hv'
  rcases hv2 with rfl|rfl
  ·exact .string _
  ·exact On λf hf=>hx f (h.wf.moves _ (aJ hl) m hm f hf)
 ·rcases h.outer.2 with⟨e,_⟩|⟨g,cap,cur,e,_,hc,_⟩
  ·rw[e] at hb;cases hb
  ·obtain rfl:g=b:=by rw[e] at hb;simpa [Value.ownBlock] using hb
   rw[hc] at ho;injection ho with ho;subst ho;refine .cells _ _ _ λv hv=>?_;rcases h.kJ g cur _ _ (by rw[e];rfl) hc v hv with rfl|⟨q,n,hq,rfl⟩
   ·exact .gy _ _
   ·exact .slice _ _ _ (hg q hq)
 ·have hbx:=(h.file _ hxi).1;unfold o8 at hbx;rw[hbx] at ho;injection ho with ho;subst ho;refine .cells _ _ _ λv hv=>?_;simp at hv;rcases hv with rfl|rfl
  ·exact TA (h.file _ hxi).2 λq hq=>hZ q (.inr (.inr (.inr (.inr (.inr ⟨_,hxi,.inr hq⟩)))))
  ·exact .int _ _
 ·rcases(h.file x hxi).2.2 with⟨e,_⟩|⟨g,cap,cur,e,_,hc,_⟩
  ·rw[e] at hb;cases hb
  ·obtain rfl:g=b:=by rw[e] at hb;simpa [Value.ownBlock] using hb
   rw[hc] at ho;injection ho with ho;subst ho;refine .cells _ _ _ λv hv=>?_;obtain⟨k,rfl⟩:=h.flat x hxi g cur _ _ (by rw[e];rfl) hc v hv;exact .int _ _
def Shun(a m1 m2:Nat)(mv:Value)(gs:List Nat)(dv:Nat->Value)(ids:List Nat)(n b:Nat):Prop:=b<n/\7<b/\¬Core a m1 m2 mv gs dv ids b
theorem bQ.vp(h:bQ w F a m1 m2 mv gs dv d):VP (Zf zone (Shun a m1 m2 mv gs dv d.ids w.heap.size) w.heap.size) (o7 a):=
 .ptr _ ⟨h.low a h.fa,λhs=>hs.2.2 (.inl rfl)⟩
end
end
section
open Go.RowKit Go.Lib Go.Maps Dk
open Zn (VP fK Zf jh Zone Le)
def JO(fv:Value)(rows:List (Nm×Value))(b:Nat):Prop:=fv.ownBlock=some b\/∃p∈rows,p.2.ownBlock=some b
section
variable{w:World}{F:Nat->Prop}{a m1 m2 B:Nat}{mv:Value}{gs:List Nat}{dv:Nat->Value}{d:D}{fv:Value}{rows:List (Nm×Value)}{l:Fl}
theorem qK.own(h:qK w B fv rows l){p:Nm×Value}(hp:p∈rows):∃q:List UInt8,OwnB w B p.2 q:=by
 obtain⟨i,hi⟩:=dY hp;have hil:i<l.length:=by have:=(aT.1 hi).1;have:=h.2.1;omega
 exact⟨_,(h.2.2.1 i p _ hi (au hil)).2⟩
theorem b97(h:qK w B fv rows l){Z:Zone}(hZ:∀b,JO fv rows b->Z.D b){b:Nat}(hb:JO fv rows b){o:Obj}(ho:w.heap[b]?=some o):fK Z o:=by
 rcases hb with hb|⟨p,hp,hb⟩
 ·rcases h.1.2 with⟨e,_⟩|⟨g,cap,cur,e,_,hc,_⟩
  ·rw[e] at hb;cases hb
  ·obtain rfl:g=b:=by rw[e] at hb;simpa [Value.ownBlock] using hb
   rw[hc] at ho;injection ho with ho;subst ho;refine .cells _ _ _ λv hv=>?_;rcases h.2.2.2.1 g cur _ _ (by rw[e];rfl) hc v hv with⟨s,rfl⟩|rfl|⟨p,hp,rfl⟩
   ·exact .string _
   ·exact .gy _ _
   ·obtain⟨q,hq⟩:=h.own hp;exact TA hq λb hb=>hZ b (.inr ⟨p,hp,hb⟩)
 ·obtain⟨q,hq⟩:=h.own hp;rcases hq.2 with⟨e,_⟩|⟨g,cap,cur,e,_,hc,_⟩
  ·rw[e] at hb;cases hb
  ·obtain rfl:g=b:=by rw[e] at hb;simpa [Value.ownBlock] using hb
   rw[hc] at ho;injection ho with ho;subst ho;refine .cells _ _ _ λv hv=>?_;obtain⟨k,rfl⟩:=h.2.2.2.2 p hp g cur _ _ (by rw[e];rfl) hc v hv;exact .int _ _
def Eo(a m1 m2:Nat)(mv:Value)(gs:List Nat)(dv:Nat->Value)(ids:List Nat)(fv:Value)(rows:List (Nm×Value))(n b:Nat):Prop:=b<n/\7<b/\¬Core a m1 m2 mv gs dv ids b/\¬JO fv rows b
theorem bQ.Wq(h:bQ w F a m1 m2 mv gs dv d)(hR:qK w B fv rows l)(hbase:∀b o,b<=7->w.heap[b]?=some o->fK zone o)(h7:7<w.heap.size):
 jh zone (Eo a m1 m2 mv gs dv d.ids fv rows w.heap.size) w/\VP (Zf zone (Eo a m1 m2 mv gs dv d.ids fv rows w.heap.size) w.heap.size) (o7 a)/\VP (Zf zone (Eo a m1 m2 mv gs dv d.ids fv rows w.heap.size) w.heap.size) fv:=by
 have hle:Le zone (Zf zone (Eo a m1 m2 mv gs dv d.ids fv rows w.heap.size) w.heap.size):=⟨rfl,rfl,rfl,λb(hb:b<=7)=>⟨by omega,λhs=>by have:=hs.2.1;omega⟩⟩;have hlt:∀b,JO fv rows b->b<w.heap.size:=λb hb=>by
  rcases hb with hb|⟨p,hp,hb⟩
  ·exact Ep hR.1 hb
  ·obtain⟨q,hq⟩:=hR.own hp;exact Ep hq hb
 have Gg:∀b,Core a m1 m2 mv gs dv d.ids b->(Zf zone (Eo a m1 m2 mv gs dv d.ids fv rows w.heap.size) w.heap.size).D b:=λq hq=>show _/\_ from⟨h.low q (h.yR hq),λhs=>hs.2.2.1 hq⟩;have om:∀b,JO fv rows b->(Zf zone (Eo a m1 m2 mv gs dv d.ids fv rows w.heap.size) w.heap.size).D b:=λq hq=>show _/\_ from⟨hlt q hq,λhs=>hs.2.2.2 hq⟩;refine⟨⟨λb o hb hn ho=>?_,λb hb=>hb.1,λb(hb:b<=7)=>⟨by omega,λhs=>by have:=hs.2.1;omega⟩⟩,.ptr _ (Gg a (.inl rfl)),TA hR.1 λb hb=>om b (.inl hb)⟩;rcases aX 7 b with hb7|hb7
 ·by_cases hc:Core a m1 m2 mv gs dv d.ids b
  ·exact h.yS Gg hc ho
  ·by_cases hr:JO fv rows b
   ·exact b97 hR om hr ho
   ·exact absurd ⟨hb,hb7,hc,hr⟩ hn
 ·exact(hbase b o hb7 ho).mono hle
end
end
end Go.Proofs.YtgpbhjjajpbeeaaGreatDoor
namespace Go.Nm
section
open Zn (fU)
open Go.Extern Go.Extern.Rtype
set_option linter.unusedVariables false
section
variable{P:Program}
theorem Ur(a:String)(t:TypeId):Mf P (noPack a t):=by
 try unfold noPack
 repeat' first|assumption|with_reducible (first|refine Q9 _ ?_|exact o5 _|refine J5 ?_|refine G6 _ ?_ ?_)|split|dsimp only|exact trivial
theorem a9w(a:String)(t:TypeId):Mf P (noPackNamed a t):=by
 try unfold noPackNamed
 repeat' first|assumption|with_reducible (first|refine Q9 _ ?_|exact o5 _|refine J5 ?_|refine G6 _ ?_ ?_)|split|dsimp only|exact trivial
theorem eN(a:String)(t:TypeId):Mf P (noPackMethods a t):=by
 try unfold noPackMethods
 repeat' first|assumption|with_reducible (first|refine Q9 _ ?_|exact o5 _|refine J5 ?_|refine G6 _ ?_ ?_)|split|dsimp only|exact trivial
theorem DG(t:TypeId):Mf P (spelt t):=by
 try unfold spelt
 repeat' first|assumption|with_reducible (first|exact QK _|exact a9w _ _|refine l9 ?_ λ_=>?_)|split|dsimp only|exact trivial
theorem T_(t:TypeId):Mf P (under t):=by
 try unfold under
 repeat' first|assumption|with_reducible (first|exact o5 _|exact J8 _|refine l9 ?_ λ_=>?_)|split|dsimp only|exact trivial
theorem TN(t:TypeId):Mf P (kind t):=by
 try unfold kind
 repeat' first|assumption|with_reducible (first|exact y8 _|exact o5 _|exact T_ _|refine l9 ?_ λ_=>?_)|split|dsimp only|exact trivial
theorem b5v(t:TypeId):Mf P (hasName t):=by
 try unfold hasName
 repeat' first|assumption|with_reducible (first|exact o5 _|exact J8 _|refine l9 ?_ λ_=>?_)|split|dsimp only|exact trivial
theorem Ds(t:TypeId):Mf P (elem? t):=by
 first|unfold elem?|skip
 repeat' first|assumption|with_reducible (first|exact o5 _|exact T_ _|refine l9 ?_ λ_=>?_)|split|dsimp only|exact trivial
theorem eE(t v:TypeId):Mf P (implements t v):=by
 try unfold implements
 repeat' first|assumption|with_reducible (first|exact o5 _|exact J8 _|exact eN _ _|exact T_ _|refine l9 ?_ λ_=>?_)|split|dsimp only|exact trivial
theorem SZ(t v:TypeId):Mf P (directlyAssignable t v):=by
 try unfold directlyAssignable
 repeat' first|assumption|with_reducible (first|exact o5 _|exact T_ _|exact b5v _|refine l9 ?_ λ_=>?_|refine G6 _ ?_ ?_)|split|dsimp only|exact trivial
theorem cV(h:Value):Mf P (ofHandle h):=by
 try unfold ofHandle
 repeat' first|assumption|with_reducible (first|exact y8 _|exact o5 _|refine J5 ?_)|split|dsimp only|exact trivial
theorem Hh(t:TypeId):Mf P (handle t):=by
 try unfold handle
 repeat' first|assumption|with_reducible (first|exact o5 _|refine J5 ?_)|split|dsimp only|exact trivial
theorem L2(n:String):Mf P (cutType n):=by
 try unfold cutType
 repeat' first|assumption|with_reducible (first|exact y8 _|exact o5 _|refine J5 ?_)|split|dsimp only|exact trivial
theorem aR(t:TypeId):Mf P (ReflectliteType.toType t):=by
 try unfold ReflectliteType.toType
 repeat' first|assumption|with_reducible (first|exact o5 _|exact Hh _|exact L2 _|refine l9 ?_ λ_=>?_)|split|dsimp only|exact trivial
theorem b8v{args:Array Value}:Mf P (ReflectliteType.typeOf args):=by
 obtain⟨l⟩:=args;rcases l with _|⟨x,_|⟨y,l⟩⟩
 ·exact trivial
 ·cases x<;>first|exact aR _|exact trivial
 ·cases x<;>exact trivial
theorem cF(v:Value):Mf P (ReflectliteType.ofRtype v):=by
 cases v<;>first|exact trivial|skip
 rename_i c;obtain⟨l⟩:=c;rcases l with _|⟨x,_|⟨y,l⟩⟩
 ·exact trivial
 ·exact l9 (cV _) λ_=>l9 (Ur _ _) λ_=>trivial
 ·exact trivial
theorem b8w{f:TypeId->Sem Value}(hf:∀t,Mf P (f t))(args:Array Value):Mf P (ReflectliteType.method f args):=by
 obtain⟨l⟩:=args;rcases l with _|⟨x,_|⟨y,l⟩⟩
 ·exact trivial
 ·exact l9 (cF _) λt=>hf t
 ·exact trivial
theorem SR{a:String}{f:TypeId->TypeId->Sem Bool}(hf:∀t u,Mf P (f t u))(args:Array Value):Mf P (ReflectliteType.relation a f args):=by
 obtain⟨l⟩:=args;rcases l with _|⟨x,_|⟨y,_|⟨z,l⟩⟩⟩
 ·exact trivial
 ·exact trivial
 ·cases y<;>first
   | exact l9 (cF _) λ_=>l9 (cF _) λ_=>l9 (hf _ _) λ_=>trivial
   | (unfold ReflectliteType.relation panicString;repeat' first|exact trivial|(with_reducible refine J5 ?_)|(with_reducible refine l9 ?_ λ_=>?_))
   | exact trivial
 ·cases y<;>exact trivial
theorem b2A{f:TypeId->Sem Value}(hf:∀t,Mf P (f t))(args:Array Value):Mf P (ReflectliteType.abiMethod f args):=by
 obtain⟨l⟩:=args;rcases l with _|⟨x,_|⟨y,l⟩⟩
 ·exact trivial
 ·exact l9 (cV _) λt=>l9 (Ur _ _) λ_=>hf t
 ·exact trivial
theorem dz{α:Type}(s:String):Mf P (panicString s:Sem α):=by
 try unfold panicString
 repeat' first|assumption|with_reducible (first|exact cJ _|refine J5 ?_)|split|dsimp only|exact trivial
theorem c1i(t:TypeId):Mf P (ReflectliteType.elem t):=by
 try unfold ReflectliteType.elem
 repeat' first|assumption|with_reducible (first|exact DG _|exact Ds _|exact aR _|exact dz _|refine l9 ?_ λ_=>?_)|split|dsimp only|exact trivial
theorem a9y(u t:TypeId):Mf P (ReflectliteType.implements_ u t):=by
 try unfold ReflectliteType.implements_
 repeat' first|assumption|with_reducible (first|exact Ur _ _|exact eN _ _|exact TN _|exact eE _ _|exact dz _|refine l9 ?_ λ_=>?_|refine G6 _ ?_ ?_)|split|dsimp only|exact trivial
theorem a8u(u t:TypeId):Mf P (ReflectliteType.assignableTo u t):=by
 try unfold ReflectliteType.assignableTo
 repeat' first|assumption|with_reducible (first|exact o5 _|exact eN _ _|exact eE _ _|exact SZ _ _|refine l9 ?_ λ_=>?_|refine G6 _ ?_ ?_)|split|dsimp only|exact trivial
theorem rR(t:TypeId){a:Addr}(fl:Nat):Mf P (ReflectliteValue.mk t a fl):=by
 try unfold ReflectliteValue.mk
 repeat' first|assumption|with_reducible (first|exact o5 _|exact TN _|exact Hh _|refine l9 ?_ λ_=>?_)|split|dsimp only|exact trivial
theorem G4{v:Value}:Mf P (ReflectliteValue.unpack v):=by
 try unfold ReflectliteValue.unpack
 repeat' first|assumption|with_reducible (first|exact y8 _|exact o5 _|exact Ky _|exact rR _ _|refine l9 ?_ λ_=>?_)|split|dsimp only|exact trivial
theorem Rf{α:Type}(m:String)(k:Nat):Mf P (ReflectliteValue.valueError m k:Sem α):=by
 try unfold ReflectliteValue.valueError
 repeat' first|assumption|with_reducible (first|exact cJ _|exact bk _|exact Ky _|exact L2 _|refine l9 ?_ λ_=>?_)|split|dsimp only|exact trivial
theorem SO{v:Value}:Mf P (ReflectliteValue.partsAny v):=by
 have key:∀(hd:Value)(a:Addr)(f:Nat),Mf P (do pure (some (<-ofHandle hd,a,f)):Sem (Option (TypeId×Addr×Nat))):=λhd a f=>l9 (cV _) λ_=>trivial;cases v<;>first|exact trivial|skip
 rename_i c;obtain⟨l⟩:=c;rcases l with _|⟨x,_|⟨y,_|⟨z,_|⟨u,l⟩⟩⟩⟩
 ·exact trivial
 ·exact trivial
 ·exact trivial
 ·cases z<;>first|exact trivial|skip
  rename_i k n;cases k<;>first|exact trivial|skip
  cases n with
  | ofNat n=>
   cases n with
   | zero=>exact trivial
   | succ n=>
    cases y<;>first|exact trivial|skip
    rename_i p
    cases p with
    | none=>exact trivial
    | some a=>exact key x a (n+1)
  | negSucc n=>
   cases y<;>first|exact trivial|skip
   rename_i p
   cases p with
   | none=>exact trivial
   | some a=>exact key x a _
 ·cases z<;>exact trivial
theorem TY{v:Value}:Mf P (ReflectliteValue.parts v):=by
 try unfold ReflectliteValue.parts
 repeat' first|assumption|with_reducible (first|exact o5 _|exact Ur _ _|exact SO|refine l9 ?_ λ_=>?_)|split|dsimp only|exact trivial
theorem b8x(t:TypeId){a:Addr}(fl k:Nat):Mf P (ReflectliteValue.isNil t a fl k):=by
 try unfold ReflectliteValue.isNil
 repeat' first|assumption|with_reducible (first|exact o5 _|exact Ic _|exact Rf _ _|refine l9 ?_ λ_=>?_|refine G6 _ ?_ ?_)|split|dsimp only|exact trivial
theorem c1j(t:TypeId){a:Addr}(fl k:Nat):Mf P (ReflectliteValue.elem t a fl k):=by
 try unfold ReflectliteValue.elem
 repeat' first|assumption|with_reducible (first|exact o5 _|exact Ic _|exact Ds _|exact rR _ _|exact G4|exact Rf _ _|refine l9 ?_ λ_=>?_|refine G6 _ ?_ ?_)|split|dsimp only|exact trivial
theorem A5{args:Array Value}:Mf P (ReflectliteValue.set args):=by
 obtain⟨l⟩:=args;rcases l with _|⟨x,_|⟨y,_|⟨z,l⟩⟩⟩
 ·exact trivial
 ·exact trivial
 ·unfold ReflectliteValue.set;refine l9 TY λo=>l9 TY λo'=>?_
  cases o with
  | none=>exact trivial
  | some o=>
   cases o' with
   | none=>exact trivial
   | some o'=>
    obtain⟨dst,a,fl⟩:=o;obtain⟨src,b,pQ⟩:=o';dsimp only;repeat' first|assumption|with_reducible (first|refine Q9 _ ?_|exact o5 _|exact Ic _|exact TX _|exact DG _|exact TN _|exact eE _ _|exact SZ _ _|exact dz _|exact TY|refine l9 ?_ λ_=>?_|refine G6 _ ?_ ?_)|split|dsimp only|exact trivial
 ·exact trivial
end
end
end Go.Nm
namespace Go.Nm
open Go.Extern Go.Extern.Rtype
variable{P:Program}
theorem cI{zero:Sem Value}{f:TypeId->Addr->Nat->Nat->Sem Value}(hz:Mf P zero)(hf:∀t a fl k,Mf P (f t a fl k)){args:Array Value}:Mf P (ReflectliteValue.method zero f args):=by
 obtain⟨l⟩:=args;rcases l with _|⟨x,_|⟨y,l⟩⟩
 ·exact trivial
 ·refine l9 TY λo=>?_
  cases o with
  | none=>exact hz
  | some o=>obtain⟨t,a,fl⟩:=o;exact hf _ _ _ _
 ·exact trivial
theorem b0d{zero:Sem Value}{f:TypeId->Addr->Nat->Nat->Sem Value}(hz:Mf P zero)(hf:∀t a fl k,Mf P (f t a fl k)){args:Array Value}:Mf P (ReflectliteValue.methodAny zero f args):=by
 obtain⟨l⟩:=args;rcases l with _|⟨x,_|⟨y,l⟩⟩
 ·exact trivial
 ·refine l9 SO λo=>?_
  cases o with
  | none=>exact hz
  | some o=>obtain⟨t,a,fl⟩:=o;exact hf _ _ _ _
 ·exact trivial
structure DB where
 F:FuncId->Bool
 N:String->Bool
def DB.vZ(B:DB):kK:={F:=λf=>B.F f=true,N:=λn=>B.N n=true}
variable(B:DB)
def zc:Callee->Bool
 | .value (.func f)=>B.F f
 | .invoke _ n=>B.N n
 | .builtin b=>bN b
 | _=>false
def sG:Op->Bool
 | .call c=>zc B c.callee
 | .go _|.defer _|.send .. | .recv .. | .select .. | .makeChan .. | .ready _|.waits _|.mapEntry .. | .entryStore .. | .sliceToArrayPointer ..=>false
 | _=>true
def fQ:Code->Bool
 | .seq a b=>fQ a&&fQ b
 | .cond _ a b=>fQ a&&fQ b
 | .block _ b=>fQ b
 | .loop b=>fQ b
 | .scope b=>fQ b
 | .region _ ops _=>ops.toList.all λo=>sG B o.op
 | .rangeFunc ..=>false
 | _=>true
variable{B}
theorem sG.sound{o:Op}(h:sG B o=true):rW B.vZ o:=by
 cases o<;>first|trivial|(cases h;done)|skip
 rename_i c;show Zy B.vZ c.callee;have h2:zc B c.callee=true:=h
 cases hc:c.callee with
 | value x=>
  rw[hc] at h2
  cases x<;>first|exact h2|cases h2
 | _=>rw[hc] at h2;exact h2
theorem fQ.sound:∀{c:Code},fQ B c=true->jy B.vZ c:=by
 intro c
 induction c with
 | seq a b iha ihb=>intro h;simp only[fQ,aH] at h;exact⟨iha h.1,ihb h.2⟩
 | cond x a b iha ihb=>intro h;simp only[fQ,aH] at h;exact⟨iha h.1,ihb h.2⟩
 | block id b ih=>intro h;exact ih h
 | loop b ih=>intro h;exact ih h
 | scope b ih=>intro h;exact ih h
 | region id ops d=>intro h;exactλo ho=>sG.sound (aQ.1 h o (by simpa using ho))
 | rangeFunc f p a b iha ihb=>intro h;cases h
 | _=>intro _;trivial
end Go.Nm
namespace Go.Proofs.YtgpbhjjajpbeeaaGreatDoor
open Go.RowKit Go.Nm Go.Extern
def mS:List Nat:=[12,13,15,16,17,20,31,32,37,46,47,48,49,50,51,52,53,65,66,67,68,69,75,76,77,80,88,89,90,91,92,93,97,119,120,121,122,123,124,125,148,162,163,164,165,180,181,182,183,184,185,186,187,188,189,190,208,209,210,211,212,213,222,247,248,253,255,259,261,262]
def db:DB:={F:=λf=>mS.contains f,N:=λn=>["Kind","Elem","Implements","As","Unwrap","AssignableTo"].contains n}
noncomputable def Qo(f:Nat):Bool:=match prog.funcs[f]? with
 | some fn=>(fn.name != "runtime.NumGoroutine")&&(match fn.body with|some c=>fQ db c|none=>[97,119,120,121,162,163,247,248,255,259,261,262].contains f)
 | none=>true
theorem Cf:mS.all Qo=true:=by kernel_rfl
theorem BV:prog.types.toList.all (λi=>i.methods.toList.all λm=>!db.N m.name||(match m.func with|some (f,_)=>db.F f|none=>true))=true:=by kernel_rfl
end Go.Proofs.YtgpbhjjajpbeeaaGreatDoor
namespace Go.Proofs.YtgpbhjjajpbeeaaGreatDoor
section
open Go.RowKit Go.Nm Go.Extern
theorem b5g:prog.funcs.toList.all (λf=>match f.body with|some c=>(readies c).all λg=>decide (g<7)|none=>true)=true:=by kernel_rfl
theorem b5h(g:Nat)(hg:prog.globals.size<=g):prog.stepOf g=none:=by
 rw[globals_size] at hg;unfold Program.stepOf;rw[Array.findIdx?_eq_none_iff];intro f hf;have:=aQ.1 b5g f (by simpa using hf)
 cases hb:f.body with
 | none=>rfl
 | some c=>
  rw[hb] at this;dsimp only at this;simp only[dH,Option.any_some]
  cases hc:(readies c).contains g with
  | false=>rfl
  | true=>
   exfalso;have h1:=aQ.1 this g (by simpa using hc);have:=dF h1;omega
theorem yX{fn:Func}{x:Array Value->Sem Value}(hn:Extern.findNext fn=none)(hf:Extern.find fn=some x)(hx:∀args,Mf prog (x args)):Extern.findNext fn=none/\∀e args,Extern.find fn=some e->Mf prog (e args):=
 ⟨hn,λe args h=>(aF (hf.symm.trans h))▸hx args⟩
theorem b8j{fn:Func}(hn:Extern.findNext fn=none)(hf:Extern.find fn=none):Extern.findNext fn=none/\∀e args,Extern.find fn=some e->Mf prog (e args):=⟨hn,λe args h=>absurd h (by rw[hf];simp)⟩
theorem ve:∀f∈[97,119,120,121,162,163,247,248,255,259,261,262],∀fn,prog.funcs[f]?=some fn->Extern.findNext fn=none/\∀e args,Extern.find fn=some e->Mf prog (e args):=by
 intro f hf fn hfn;simp only[aY,iH,or_false] at hf;rcases hf with rfl|rfl|rfl|rfl|rfl|rfl|rfl|rfl|rfl|rfl|rfl|rfl
 ·obtain rfl:=aF (func97.symm.trans hfn);exact yX (x:=ReflectliteType.typeOf) (by kernel_rfl) (by kernel_rfl) λargs=>b8v
 ·obtain rfl:=aF (func119.symm.trans hfn);exact yX (x:=λargs=>ReflectliteValue.unpack (args.getD 0 (.tuple #[]))) (by kernel_rfl) (by kernel_rfl) λargs=>G4
 ·obtain rfl:=aF (func120.symm.trans hfn);exact yX (x:=ReflectliteValue.methodAny (ReflectliteValue.valueError "reflectlite.Value.Type" 0) λt _ _ _=>ReflectliteType.toType t) (by kernel_rfl) (by kernel_rfl) λargs=>b0d (Rf _ _) λt _ _ _=>aR t
 ·obtain rfl:=aF (func121.symm.trans hfn);exact yX (x:=ReflectliteValue.method (ReflectliteValue.valueError "reflectlite.Value.IsNil" 0) ReflectliteValue.isNil) (by kernel_rfl) (by kernel_rfl) λargs=>cI (Rf _ _) λt a fl k=>b8x t fl k
 ·obtain rfl:=aF (func162.symm.trans hfn);exact yX (x:=ReflectliteValue.method (ReflectliteValue.valueError "reflectlite.Value.Elem" 0) ReflectliteValue.elem) (by kernel_rfl) (by kernel_rfl) λargs=>cI (Rf _ _) λt a fl k=>c1j t fl k
 ·obtain rfl:=aF (func163.symm.trans hfn);exact yX (x:=ReflectliteValue.set) (by kernel_rfl) (by kernel_rfl) λargs=>A5
 ·obtain rfl:=aF (func247.symm.trans hfn);exact b8j (by kernel_rfl) (by kernel_rfl)
 ·obtain rfl:=aF (func248.symm.trans hfn);exact yX (x:=ReflectliteType.abiMethod λt=>do pure (.int .u8 (<-Rtype.kind t))) (by kernel_rfl) (by kernel_rfl) λargs=>b2A (f:=λt=>do pure (.int .u8 (<-Rtype.kind t))) (λt=>l9 (TN t) λ_=>o5 _) args
 ·obtain rfl:=aF (func255.symm.trans hfn);exact yX (x:=ReflectliteValue.method (pure (.int .u8 0)) λ_ _ _ k=>pure (.int .u8 (Int.ofNat k))) (by kernel_rfl) (by kernel_rfl) λargs=>cI (zero:=pure (.int .u8 0)) (f:=λ_ _ _ k=>pure (.int .u8 (Int.ofNat k))) (o5 _) λ_ _ _ _=>o5 _
 ·obtain rfl:=aF (func259.symm.trans hfn);exact yX (x:=ReflectliteType.relation "AssignableTo" ReflectliteType.assignableTo) (by kernel_rfl) (by kernel_rfl) λargs=>SR (λt u=>a8u t u) args
 ·obtain rfl:=aF (func261.symm.trans hfn);exact yX (x:=ReflectliteType.method ReflectliteType.elem) (by kernel_rfl) (by kernel_rfl) λargs=>b8w (λt=>c1i t) args
 ·obtain rfl:=aF (func262.symm.trans hfn);exact yX (x:=ReflectliteType.relation "Implements" ReflectliteType.implements_) (by kernel_rfl) (by kernel_rfl) λargs=>SR (λt u=>a9y t u) args
theorem b8k:∀(t:Nat)(i:TypeInfo),prog.types[t]?=some i->Zn.mF zone i:=λt i hi z hzz=>by
 have h1:=aQ.1 types i (by rw[<-dG] at hi;exact aJ hi);unfold typeAt at h1;simp only[aH] at h1;rw[hzz] at h1;exact Zn.sS.sound _ _ h1.1
theorem mp:ER db.vZ prog:=by
 have at_:∀f fn,db.vZ.F f->prog.funcs[f]?=some fn->Qo f=true:=λf fn hf _=>aQ.1 Cf f (by simpa [DB.vZ,db] using hf);refine⟨⟨λt i hi m hm hN f p hf=>?_,λf fn hf hfn=>?_,λf fn hf hfn hb=>?_⟩,b5h,λf fn c hf hfn hb=>?_⟩
 ·rcases aX t prog.types.size with ht|ht
  ·have h1:=aQ.1 BV i (by have:=Zn.rD ht hi;rw[<-dG] at this;exact aJ this);have h2:=aQ.1 h1 m (by simpa using hm);rw[hf,show db.N m.name=true from hN] at h2;exact(by simpa using h2:db.F f=true)
  ·rw[(Zn.pO (Z:=zone) b8k hi).2 ht] at hm;simp at hm
 ·have h1:=at_ f fn hf hfn;unfold Qo at h1;rw[hfn] at h1;simp only[aH] at h1;simpa using h1.1
 ·have h1:=at_ f fn hf hfn;unfold Qo at h1;rw[hfn] at h1;simp only[aH,hb] at h1;exact ve f (by simpa using h1.2) fn hfn
 ·have h1:=at_ f fn hf hfn;unfold Qo at h1;rw[hfn] at h1;simp only[aH,hb] at h1;exact fQ.sound h1.2
end
section
open Go.RowKit Go.Nm
theorem b2r:(List.range 7).all (λg=>(((begin prog (λ_ _=>0) default).world.heap[g]?).bind Obj.row?).isSome)=true:=by kernel_rfl
theorem a9p{W:World}(h:W.ShapedOpen prog):∀g,g<prog.globals.size->jW W g:=by
 intro g hg;have hg':g<7:=by rw[globals_size] at hg;exact hg
 have h1:=aQ.1 b2r g (fV.2 hg');obtain⟨⟨zero,t⟩,h2⟩:=Rk.1 h1;obtain⟨cs,h3,-⟩:=h.1 g zero t hg h2;exact⟨cs,t,_,h3⟩
end
section
open Go.ChangeShapes Go.WideShapes Go.ChangeAt Go.RowKit Go.Joins Go.Lib Pl
namespace je
theorem wu{p:Pinned}{s:OpenSpec}{c:OpenClaim}(kinds:List LaidKind)(har:Bool×String)(lk:Bool)
 (hc:c.holds p s)(hw:c.wfByText s=true)(htie:c.laidByTextAt .later p kinds true)
 (hst:c.start=.entering)(hnb:c.noBlocks=false/\c.again=false)(hm:p.checked.prog.mainIs=some (har.1,har.2.toList))(hn:(!har.1&&har.2.isEmpty&&!lk)=false)
 (hl:∀f fn,p.checked.prog.funcNamed c.func=some f->p.checked.prog.funcs[f]?=some fn->lk=p.checked.prog.looks []/\∀(j:Nat)t,fn.params[j]?=some t->p.checked.prog.wantsStandIn t=false)
 (hg:true=c.goesBy p.checked.prog):
 Claim7.holds p (.plain s) {stood:={row:=c,standIns:=[],harness:=har,looks:=lk},kinds:=[],alts:=[],goes:=true,laidByText:=true,laidKinds:=kinds,laidTests:=true,laidLooks:=.later}:=by
 have h6:Claim7.isSixth {stood:={row:=c,standIns:=[],harness:=har,looks:=lk},kinds:=[]} = false:=by simpa [Claim7.isSixth] using hn
 refine⟨?_,(λD hD=>by cases hD),htie,(λh=>by cases h),hg⟩;exact Claim7.tied_new_at .later kinds true (Claim7.new_of_sixth hc har lk hst hnb hm h6 hl) hw
theorem own:ownKnob prog.godebug=none:=by kernel_rfl
theorem et:prog.globalNamed "errors.errorType" = some 0:=by kernel_rfl
theorem rt:(prog.cutTypes.find? (·.1== "internal/reflectlite.rtype")).map (·.2)=some 275:=by kernel_rfl
theorem oneRow:((List.range 395).filter λt=>prog.rowNamed t [101,114,114,111,114])=[34]:=by kernel_rfl
theorem size:prog.types.size=395:=by kernel_rfl
theorem handle:typeHandle prog 34=.pointer (some ⟨7,34,none⟩):=by kernel_rfl
theorem g10:prog.globalNamed "internal/strconv.uint64pow10" = some 1:=by kernel_rfl
theorem Wv:(prog.globals[1]?).map (·.type)=some 353:=by kernel_rfl
def uk:Lit->Value
 | .int k n=>.int k n
 | _=>.nilIface
def lv:DataW Unit->Value
 | .lit l=>uk l
 | _=>.nilIface
def ui:DataW Unit->List Value
 | .agg xs=>xs.map lv
 | x=>[lv x]
def Pq:DataW Unit->List Value
 | .agg xs=>xs.flatMap ui
 | x=>[lv x]
def put(cs:List Value):Obj->Obj
 | .cells _ t frozen=>.cells cs.toArray t frozen
 | o=>o
noncomputable def laidWorld(os:Os)(args:Array Value):World:=
 {World.holding prog os ⟨#[],args,[]⟩ with heap:=(((((((World.holding prog os ⟨#[],args,[]⟩).heap.modify 0 (put [.iface 275 (.agg #[.pointer (some ⟨7,34,none⟩)])])).modify 5 (put (Pq Rows.laid_math_bits_deBruijn32tab))).modify 6 (put (Pq Rows.laid_math_bits_deBruijn64tab))).modify 1 (put (Pq Rows.laid_internal_strconv_uint64pow10))).modify 4 (put (Pq Rows.laid_unicode_utf8_acceptRanges))).modify 3 (put (Pq Rows.laid_unicode_utf8_first)))}
variable{H:Type}{enc:TypeId×Value->H}{P:Program}
end je
end
end Go.Proofs.YtgpbhjjajpbeeaaGreatDoor
set_option maxRecDepth 100000
namespace Go.Proofs.YtgpbhjjajpbeeaaGreatDoor
open Go.RowKit Go.Nm Go.Lib
open Zn (VP fK Zone)
noncomputable def intRow(t:TypeId):Bool:=prog.buildable t&&(match prog.cellTypes prog.depth t with
 | some ts=>ts.all λu=>match prog.underlying u with|some (.int _)=>true|_=>false
 | none=>false)
theorem intRow.cells{W:World}{r:Reach}{t:TypeId}{cs:Array Value}(ht:intRow t=true)(h:prog.buildable t=true->Row.ok prog W r 0 t cs):∀v∈cs,∃k n,v=.int k n:=by
 unfold intRow at ht;simp only[aH] at ht;obtain⟨ts,h1,-,h2⟩:=h ht.1;rw[h1] at ht;intro v hv;obtain⟨i,hi⟩:=gB.1 hv;obtain⟨u,hu,hc⟩:=h2 i v hi;have hk:=aQ.1 ht.2 u (aJ hu);unfold Cell.ok at hc
 cases e:prog.underlying u with
 | none=>rw[e] at hk;cases hk
 | some x=>
  rw[e] at hk hc;cases x<;>first|(cases hk;done)|skip
  cases v<;>first|exact hc.elim|exact⟨_,_,rfl⟩
noncomputable def rowAt(g:Nat):Option (Array Value×TypeId):=((begin prog (λ_ _=>0) default).world.heap[g]?).bind Obj.row?
noncomputable def Qa(g:Nat):Bool:=match rowAt g with|some (_,t)=>intRow t|none=>false
theorem b2g:((List.range 7).filter λg=>!Qa g)=[0]:=by kernel_rfl
theorem b0b:(rowAt 0).map (λx=>x.1.size)=some 1:=by kernel_rfl
noncomputable def bO:Bool:=match (begin prog (λ_ _=>0) default).world.heap[7]? with
 | some (Obj.cells c _ _)=>c.toList.all (Zn.sS zb 6)
 | _=>false
theorem M4:bO=true:=by kernel_rfl
theorem b7A{W:World}(h:W.ShapedOpen prog)(hL:Laid W):∀b o,b<=7->W.heap[b]?=some o->fK zone o:=by
 intro b o hb ho;rcases aX b 7 with hb7|hb7
 ·have hgl:b<prog.globals.size:=by rw[globals_size];exact hb7
  by_cases he:b=0
  ·subst he;have h1:=b0b;obtain⟨⟨zero,t⟩,h2,h3⟩:=aS.1 h1;obtain⟨cs,h4,h5,-⟩:=h.1 _ zero t hgl h2;rw[h4] at ho;injection ho with ho;subst ho;have h6:cs.size=1:=h5.trans h3;have h7:cs[0]?=some (.iface 275 (.agg #[.pointer (some ⟨7,34,none⟩)])):=by
    have:=hL;unfold Laid at this;simpa [World.cell?,h4] using this
   refine .cells _ _ _ λv hv=>?_;obtain⟨i,hi⟩:=gB.1 hv;have hi0:i=0:=by
    have:=(aN.1 hi).1;omega
   subst hi0;rw[h7] at hi;injection hi with hi;subst hi;refine .iface _ _ rfl (.agg _ λx hx=>?_);obtain rfl:x=.pointer (some ⟨7,34,none⟩):=by simpa using hx
   exact .ptr _ (aj _)
  ·have hm:b∉((List.range 7).filter λg=>!Qa g):=by
    rw[b2g];simpa using he
   have hi:Qa b=true:=by
    cases e:Qa b with
    | true=>rfl
    | false=>exact absurd (iR.2 ⟨fV.2 hb7,by rw[e];rfl⟩) hm
   unfold Qa at hi
   cases hr:rowAt b with
   | none=>rw[hr] at hi;cases hi
   | some r=>
    obtain⟨zero,t⟩:=r;rw[hr] at hi;obtain⟨cs,h4,-,h5⟩:=h.1 b zero t hgl hr;rw[h4] at ho;injection ho with ho;subst ho;refine .cells _ _ _ λv hv=>?_;obtain⟨k,n,rfl⟩:=intRow.cells hi h5 v hv;exact .int _ _
 ·obtain rfl:b=7:=by omega
  have hk:=M4;unfold bO at hk
  cases e:(begin prog (λ_ _=>0) default).world.heap[7]? with
  | none=>rw[e] at hk;cases hk
  | some o0=>
   rw[e] at hk;have hlt:7<(begin prog (λ_ _=>0) default).world.heap.size:=by
    rcases aX 7 (begin prog (λ_ _=>0) default).world.heap.size with h|h
    ·exact h
    ·rw[aW h] at e;cases e
   obtain⟨o1,o2,h1,h2,h3⟩:=h.2 7 (by rw[globals_size];exact aj _) hlt;rw[e] at h2;injection h2 with h2;subst h2;rw[globals_size,if_neg (by decide)] at h3;rw[ho] at h1;injection h1 with h1;subst h1;rw[h3]
   cases o0 with
   | cells c t fr=>
    exact .cells _ _ _ λv hv=>Zn.sS.sound _ _ (aQ.1 hk v (by simpa using hv))
   | _=>cases hk
end Go.Proofs.YtgpbhjjajpbeeaaGreatDoor
namespace Go.Proofs.YtgpbhjjajpbeeaaGreatDoor
section
open Go.ChangeShapes Go.WideShapes Go.ChangeAt Go.RowKit Go.Joins Go.Lib Pl
structure zX(W W':World):Prop where
 os:W'.os=W.os
 output:W'.output=W.output
 size:W.heap.size<=W'.heap.size
 block:∀b,b<W.heap.size->W'.heap[b]?=W.heap[b]?
theorem zX.Fh{W W':World}(h:Ext W W'):zX W W':=⟨h.os,h.output,h.size,λb hb=>h.block b hb⟩
theorem zX.tp{W W':World}(h:zX W W')(τ:Nat->Question->Nat)(p:Nat):zX W (Zn.tp W' τ p):=⟨h.os,h.output,h.size,h.block⟩
namespace je
variable{H:Type}{enc:TypeId×Value->H}{P:Program}
theorem qZ{f:Func}{s:ChangeSpec}{apart fresh handsOn:Bool}{W W':World}{args:Array Value}{v:Value}{ds gs:List (DataW H)}{before pa pv:List MemPlace}
 (hW:DataW.Whole enc P f.params.toList s.vars apart W args.toList ds gs before)
 (hres:∀(b:Nat)(sp:Nat->Bool)(hd:Bool),DataW.TrodAll enc P W' b sp hd f.resultTypes.toList (v.resultList f.resultTypes.size) (s.fn H (ds++gs)).results [])
 (hargs:∀sp:Nat->Bool,(∀p∈before,sp p.block=true)->DataW.TrodAll enc P W' 0 sp true f.params.toList args.toList (s.fn H (ds++gs)).args pa)
 (hvars:∀sp:Nat->Bool,(∀p∈before,sp p.block=true)->DataW.TrodVars enc P W' sp s.vars (s.fn H (ds++gs)).vars pv)
 (hE:zX W W'):s.post enc P f apart fresh handsOn false W args v W':=by
 have hold:∀p∈before,(λb=>decide (b<W.heap.size)) p.block=true:=λp hp=>by simpa using hW.lt p hp
 refine⟨ds,gs,before,[],pa,pv,hW,hres _ _ _,hargs _ hold,hvars _ hold,⟨hE.os,hE.output,λi hi=>?_⟩,λh=>by cases h⟩;rw[hE.block i hi];split<;>simp_all
theorem ng{w w':World}(hE:zX w w'){p:MemPlace}(h:p.block<w.heap.size):w.sameAt w' p:=by
 have:=hE.block p.block h
 cases p with
 | cell b off=>exact World.cell?_of_block this
 | map b=>exact this
end je
end
section
open Go.RowKit Go.Lib Go.Maps Dk
section
variable{w w':World}{F:Nat->Prop}{a m1 m2:Nat}{mv:Value}{gs:List Nat}{dv:Nat->Value}{d:D}
theorem bQ.fresh(h:bQ w F a m1 m2 mv gs dv d):bQ (((((w.alloc (.map #[] 0)).setCell ⟨a,0,none⟩ (.map (some w.heap.size))).setCell ⟨a,2,none⟩ (.slice none 0 0)).setCell ⟨a,4,none⟩ (.int .i64 0)).setCell ⟨a,5,none⟩ (.int .i64 0))
 (λb=>F b\/b=w.heap.size) a w.heap.size m2 (.slice none 0 0) [] dv {d with now:=[],moves:=[],wait:=0,bad:=0}:=by
 have hE:Ext w (w.alloc (.map #[] 0)):=(Ext.refl w).new _;have h1:=h.ext hE;have hb:=h1.box;have hO:=((((Off.refl a (w.alloc (.map #[] 0))).setCell 0 (.map (some w.heap.size))).setCell 2 (.slice none 0 0)).setCell 4 (.int .i64 0)).setCell 5 (.int .i64 0);have hlow:=h.low;have hba:a≠w.heap.size:=by have:=hlow a h.fa;omega
 exact{
  box:=by
   have:=(((hb.set 0 (.map (some w.heap.size))).set 2 (.slice none 0 0)).set 4 (.int .i64 0)).set 5 (.int .i64 0);simpa using this
  now:=(MapOf.made w).off hO (bP hba)
  safe:=h1.safe.off hO (h1.iF hb).2
  ne:=by have:=hlow m2 h.fm.2;omega
  rows:=⟨rfl,by simp⟩
  outer:=⟨rfl,Or.inl ⟨rfl,rfl⟩⟩
  kJ:=λg c e fr h=>by cases h
  flat:=λx hx=>(h1.flat x hx).keep λb hb'=>hO.block b (λe=>G8 (h1.file x hx).2 hb (by decide) (e▸hb'))
  file:=λx hx=>⟨(hO.block x (Es (h1.file x hx).1 hb (by decide))).trans (h1.file x hx).1,iV.row (h1.file x hx).2 _ λb hb'=>hO.block b (λe=>G8 (h1.file x hx).2 hb (by decide) (e▸hb'))⟩
  apart:=h.apart
  fa:=.inl h.fa
  fm:=⟨.inr rfl,.inl h.fm.2⟩
  fg:=by simp
  fo:=by simp[Value.ownBlock]
  fx:=λx hx=>⟨.inl (h.fx x hx).1,λb hb'=>.inl ((h.fx x hx).2 b hb')⟩
  low:=λb hb'=>by
   rw[hO.size];simp;rcases hb' with h'|h'
   ·have:=hlow b h';omega
   ·omega
  wf:=⟨by simp,h.wf.safe,by simp,h.wf.part,h.wf.ids⟩
  num:=⟨by simp,by simp,h.num.2.2⟩}
end
end
section
open Go.RowKit Go.Lib Go.Maps Dk Pl
theorem nZ.held{w:World}(h:nZ w):Held w (λ_=>False) nZ:=by
 cases hg:Program.globalNamed prog "internal/strconv.uint64pow10" with
 | none=>unfold nZ Lib.TabIs World.var? at h;simp[hg] at h
 | some g=>
  have h':=h;unfold nZ Lib.TabIs World.var? at h';simp only[hg,eF] at h';have hlt:g<w.heap.size:=by
   rcases aX g w.heap.size with h1|h1
   ·exact h1
   ·rw[aW h1] at h';cases h'
  refine .of (S:=λb=>b=g) (λw' hw=>?_) λb e=>by subst e;exact⟨hlt,id⟩
  unfold nZ Lib.TabIs World.var?;simp only[hg,eF];rw[hw g rfl];exact h'
end
section
open Go.RowKit Go.Lib Go.Maps Dk Pl
open Go.Conc Go.Mw
open Zn (tp jh VP Zf Le)
open Fs (So PZ)
instance Lr:Go.ConcR.Payload:=⟨3⟩
def tg(W:World)(v:Value)(W':World):Prop:=v=.bool true/\zX W W'
theorem b8F{W:World}(hS:W.ShapedOpen prog):7<W.heap.size:=by
 rcases aX 7 W.heap.size with h|h
 ·exact h
 ·have hh:=M4;unfold bO at hh
  cases e:(begin prog (λ_ _=>0) default).world.heap[7]? with
  | none=>rw[e] at hh;cases hh
  | some o0=>
   have hlt:7<(begin prog (λ_ _=>0) default).world.heap.size:=by
    rcases aX 7 (begin prog (λ_ _=>0) default).world.heap.size with h|h
    ·exact h
    ·rw[aW h] at e;cases e
   obtain⟨o1,o2,q1,-⟩:=hS.2 7 (by rw[globals_size];exact aj _) hlt;rw[aW h] at q1;cases q1
theorem b8G:([g_ 0,g_ 1,g_ 2,g_ 3,g_ 4].all (Nm.fQ db))=true:=by kernel_rfl
theorem yn(v:Value)(d:Dr)(ba:Option Addr)(n bc:Nat)(W:World)(h:Ef W v d)(hf:d.Fits 281474976710656)(hS:W.ShapedOpen prog)(hL:Laid W)(hP:nZ W)
 (hk:∀k,k<n->∃ad key,ba=some ad/\W.cell? (ad.add k)=some (bC key)/\key.length<=maxLen):
 So prog (tg W) (G (Frame.enter prog 5 #[v,.slice ba n bc] .normal) []) W:=by
 have hbody:Tryz.f5.body=some (opC 0):=by kernel_rfl
 have hnt:Tryz.f5.ntmps=109:=by kernel_rfl
 have hin:prog.inits.idxOf? 5=none:=by kernel_rfl
 rw[enter_at _ func5 hbody,hnt];rw[show(#[v,.slice ba n bc]:Array Value).size=2 from rfl,uC];refine So.list mp rfl ?_ ?_ _ _ W (λc hc=>Nm.fQ.sound (aQ.1 b8G c hc)) (A3 v d ba n bc W h hf hL) rfl (a9p hS);rotate_left
 ·rintro a' w' todo ⟨q1,q2,hE⟩;exact So.ended (Fs.kP rfl q1 func5 hin (resultsC_tmp rfl a'.tmps) λτ p=>⟨J3 q2,(zX.Fh hE).tp τ p⟩)
 rintro⟨T,ds⟩ w ⟨a,F,D,fv,rows,w4,hT,h1,h6,h7,hok,hn,hE,hF,Ea,hR,hD,hC,hsafe,hfit⟩ hds hr;dsimp only at hT h1 h6 h7 hok hds;subst hds;have old:∀b,b<W.heap.size->w.heap[b]?=W.heap[b]?:=λb hb=>(hC.block b (ak hb hE.size) λhf=>by have:=hF b hf;omega).trans (hE.block b hb);have hsz:W.heap.size<=w.heap.size:=ay hE.size hC.size;have s_:=b8F hS;obtain⟨m1,m2,mv,gs,dv,hrep⟩:=id hD;have hbase:∀b o,b<=7->w.heap[b]?=some o->Zn.fK zone o:=λb o hb ho=>b7A hS hL b o hb (by rw[<-old b (by omega)];exact ho);obtain⟨hW,hva,hvf⟩:=hrep.Wq hR hbase (ak s_ hsz)
 letI:To.Lo:=⟨w.heap.size⟩
 have hI:To.Iv zone (Eo a m1 m2 mv gs dv D.ids fv rows w.heap.size) (λk=>uG k=true) ⟨T,[]⟩ w:=by
  refine⟨λk hk=>?_,λd hd=>(by cases hd),hW⟩;show VP _ (T.getD k undef);by_cases e6:k=6
  ·subst e6;rw[J3 h6];exact hva
  by_cases e7:k=7
  ·subst e7;rw[J3 h7];exact hvf
  exact Fs.okV.sound (hok k hk e6 e7)
 have hLw:Held w F Laid:=by
  unfold Laid at hL⊢;have hlt:=cell_lt hL;exact⟨λb=>b=0,λb hb=>by subst hb;exact⟨ak hlt hsz,λhf=>by have:=hF _ hf;have:0<W.heap.size:=hlt;omega⟩,λw' hw=>(World.cell?_of_block ((hw _ rfl).trans (old _ hlt))).trans hL⟩
 refine So.to (Sh:=Eo a m1 m2 mv gs dv D.ids fv rows w.heap.size) (aj _) (Fs.Bj (f:=5) rfl rfl func5 hin ?_);refine To.xM (c3N hI hT h1 h6 h7 (by rw[globals_size];omega) hD hsafe.calm hfit hLw (((nZ.held hP).lift hE hF:Held w4 F nZ).step hC) hn (hR.held Ea) λk hkn=>?_) λe a' w' Sh' q=>?_
 ·obtain⟨ad,key,e1,e2,e3⟩:=hk k hkn;have hlt:ad.block<W.heap.size:=by rw[<-add_block' ad k];exact World.block_lt_of_cell? W _ e2
  exact⟨ad,key,e1,(World.cell?_of_block (old _ (by rw[add_block'];exact hlt))).trans e2,e3,ak hlt hsz,λhf=>by have:=hF _ hf;omega⟩
 ·have hpost:∀v,(v=Value.bool true/\iI F w w')->∀τ p,tg W v (tp w' τ p):=λv⟨hv,hC'⟩τ p=>
   ⟨hv,(zX.mk (W:=W) (W':=w') (hC'.os.trans (hC.os.trans hE.os)) (hC'.output.trans (hC.output.trans hE.output)) (ay hsz hC'.size) λb hb=>(hC'.block b (ak hb hsz) λhf=>by have:=hF b hf;omega).trans (old b hb)).tp τ p⟩
  cases e<;>first|exact q.elim|skip
  all_goals
   obtain⟨q1,v,q2,q3⟩:=q;exact⟨q1,v,q2,hpost v q3⟩
end
section
open Go.ChangeShapes Go.WideShapes Go.ChangeAt Go.RowKit Go.Joins Go.Lib Pl Go.Deep
namespace DF
variable{H:Type}{enc:TypeId×Value->H}{W:World}
noncomputable abbrev Rd(enc:TypeId×Value->H)(W:World)(n:Nat)(t:TypeId)(cs:List Value):Option (DataW H×List MemPlace):=DataW.trod enc prog W 0 (λ_=>true) true n t cs
def Wt(d:DataW H)(t:TypeId)(B:Nat):Prop:=∀n∈d.weights prog t,n<=B
theorem ZV{n:Nat}{v:Value}{y:DataW H×List MemPlace}(h:Rd enc W n 25 [v]=some y):∃l:List UInt8,Bytes W v l/\∀B,Wt y.1 25 B->l.length<=B:=by
 rcases open_ints underlying25 underlying5 (by kernel_rfl) h with⟨hcs,hx⟩|⟨a,len,cap,zs,hcs,hb,hl,hm,hz,hx,hcell,hwz⟩
 ·simp only[fC,and_true] at hcs;subst hcs;exact⟨[],⟨none,0,rfl,aj _,⟨by omega,λ_=>rfl⟩,λh=>absurd rfl h⟩,λB _=>by simp⟩
 ·simp only[fC,and_true] at hcs;subst hcs;simp only[if_true] at hz;have hlen:(zs.take len).length=len:=by rw[bD];omega
  have hmap:((zs.take len).map λn=>UInt8.ofNat n.toNat).map dX=(zs.take len).map (Value.int .u8):=by
   rw[jQ];apply rY;intro n hn;have:=hwz n (List.mem_of_mem_take hn);simp only[Lit.wf,aH,dQ] at this;have h0:(0:Int)<=n:=this.1;have h1:n<=255:=this.2;simp only[Function.comp,dX,Value.int.injEq,true_and];rw[UInt8.toNat_ofNat_of_lt' (by show n.toNat<256;omega)];omega
  refine⟨(zs.take len).map λn=>UInt8.ofNat n.toNat,?_,λB hB=>?_⟩
  ·unfold Bytes;rw[hmap,b_,hlen];refine⟨_,_,rfl,hl,⟨hm,λh=>by cases h⟩,λ_=>⟨a,rfl,λi x hi=>?_⟩⟩;rw[aZ,dA] at hi;split at hi
   ·have hil:i<zs.length:=by omega
    have hce:=hcell i hil;rw[bf] at hce;rw[au hil] at hi hce;injection hi with hi;rw[<-hi];exact hce
   ·cases hi
  ·rw[b_,hlen];subst hx;have e2:=hB (((lits (H:=H) .u8 (zs.take len)).length+(lits (H:=H) .u8 (zs.drop len)).length)*prog.bytesOf 5) (by simp[DataW.weights,underlying25]);have e3:(lits (H:=H) .u8 (zs.take len)).length=len:=by rw[<-hlen];simp[lits]
   rw[e3,show prog.bytesOf 5=1 by kernel_rfl] at e2;omega
theorem vq{e:TypeId}:∀{l:List (DataW H)}{d:DataW H},d∈l->∀n∈d.weights prog e,n∈DataW.weightsAll prog e l
 | x::l,d,hd,n,hn=>by
  rcases aY.1 hd with rfl|hd
  ·exact aU.2 (.inl hn)
  ·exact aU.2 (.inr (vq hd n hn))
theorem row_in{α:Type}[Inhabited α]{t e:TypeId}{sz:Nat}(ht:prog.underlying t=some (.slice e))(hsz:prog.cellsOf e=sz)(at_:World->Addr->α->Prop)(fits:α->Nat->Prop)
 (hel:∀(b:Addr)(n:Nat)(cs:List Value)(y:DataW H×List MemPlace),W.cells? 0 b sz=some cs->Rd enc W n e cs=some y->∃x,at_ W b x/\∀B,Wt y.1 e B->fits x B)
 {n:Nat}{v:Value}{y:DataW H×List MemPlace}(h:Rd enc W n t [v]=some y):∃l:List α,RowOf W v l sz at_/\∀B,Wt y.1 t B->∀x∈l,fits x B:=by
 rcases open_slice ht h with⟨hcs,hx⟩|⟨a,len,cap,m,k,D,Pl,hcs,hb,hl,hm,hmm,hy,hi⟩
 ·simp only[fC,and_true] at hcs;subst hcs;exact⟨[],⟨none,0,rfl,aj _,by omega,λi x hx=>by cases hx⟩,λB _ x hx=>by cases hx⟩
 ·simp only[fC,and_true] at hcs;subst hcs;simp only[if_true] at hmm;rw[hsz] at hi;obtain⟨f,hf⟩:=choose_lt (p:=λi x=>at_ W (a.add (i*sz)) x/\∀B,Wt (D i) e B->fits x B) (λi hil=>by
   obtain⟨cs,h1,h2⟩:=hi i hil;exact hel _ _ _ _ h1 h2)
  have hml:maxLen<=9223372036854775807:=by unfold maxLen;omega
  refine⟨(List.range len).map f,⟨some a,cap,by simp,by simpa using hl,by omega,λi x hx=>?_⟩,λB hB x hx=>?_⟩
  ·rw[aZ] at hx;obtain⟨j,hj,rfl⟩:=aS.1 hx;rw[List.getElem?_range] at hj
   ·injection hj with hj;subst hj;exact⟨a,rfl,(hf i (by
     have:i<len:=by
      rcases aX i len with h|h
      ·exact h
      ·rw[dK (by simpa using h)] at hx;cases hx
     omega)).1⟩
   ·rcases aX i len with h|h
    ·exact h
    ·rw[dK (by simpa using h)] at hx;cases hx
  ·obtain⟨i,hil,rfl⟩:=bg.1 hx;have pM:i<len:=fV.1 hil;refine(hf i (by omega)).2 B λn hn=>hB n ?_;subst hy;have:n∈DataW.weightsAll prog e ((List.range len).map D):=vq (bg.2 ⟨i,hil,rfl⟩) n hn;unfold DataW.weights;rw[ht];exact aY.2 (.inr (aU.2 (.inl this)))
theorem I1{cs:List Value}(h:cs.length=3):∃c0 c1 c2,cs=[c0,c1,c2]:=by
 match cs,h with
 | [c0,c1,c2],_=>exact⟨c0,c1,c2,rfl⟩
theorem list4{cs:List Value}(h:cs.length=4):∃c0 c1 c2 c3,cs=[c0,c1,c2,c3]:=by
 match cs,h with
 | [c0,c1,c2,c3],_=>exact⟨c0,c1,c2,c3,rfl⟩
theorem IR{cs:List Value}(h:cs.length=5):∃c0 c1 c2 c3 c4,cs=[c0,c1,c2,c3,c4]:=by
 match cs,h with
 | [c0,c1,c2,c3,c4],_=>exact⟨c0,c1,c2,c3,c4,rfl⟩
theorem IP{cs:List Value}(h:cs.length=6):∃c0 c1 c2 c3 c4 c5,cs=[c0,c1,c2,c3,c4,c5]:=by
 match cs,h with
 | [c0,c1,c2,c3,c4,c5],_=>exact⟨c0,c1,c2,c3,c4,c5,rfl⟩
theorem YK:prog.cellsOf 4=1:=by kernel_rfl
theorem rN:prog.cellsOf 3=1:=by kernel_rfl
theorem rL:prog.cellsOf 9=1:=by kernel_rfl
theorem xF:prog.cellsOf 22=1:=by kernel_rfl
theorem xz:prog.cellsOf 23=1:=by kernel_rfl
theorem sd:prog.cellsOf 24=1:=by kernel_rfl
theorem Za:prog.cellsOf 25=1:=by kernel_rfl
theorem xy:prog.cellsOf 92=1:=by kernel_rfl
theorem zD(b:Addr){n:Nat}(h:n≠0):b.add n=⟨b.block,b.off+n,none⟩:=by unfold Addr.add;rw[if_neg h]
theorem add_zero(b:Addr):b.add 0=b:=rfl
theorem xp(b:Addr)(n:Nat)(cs:List Value)(y:DataW H×List MemPlace)(hc:W.cells? 0 b 4=some cs)(h:Rd enc W n 111 cs=some y):∃r,Cc W b r/\∀B,Wt y.1 111 B->r.key.size<=B/\r.val.size<=B:=by
 obtain⟨-,hl,hcell⟩:=World.cells?_some hc;obtain⟨c0,c1,c2,c3,rfl⟩:=list4 hl;obtain⟨y0,y1,y2,y3,k,rfl,-,h0,h1,h2,h3⟩:=trod_struct4 underlying111 h;simp only[sd,rL,YK,kW,qC,kV,jk] at h0 h1 h2 h3;obtain⟨a,e0,rfl,wa⟩:=DataW.trod_int underlying24 h0;obtain⟨ky,e1,rfl,hk⟩:=DataW.trod_string underlying9 h1;obtain⟨v,e2,rfl,hv⟩:=DataW.trod_string underlying9 h2;obtain⟨d,e3,rfl⟩:=DataW.trod_bool underlying4 h3;simp only[fC,and_true] at e0 e1 e2 e3;subst e0;subst e1;subst e2;subst e3;have Ws:0<=a:=by
  have:=wa;simp only[Lit.wf,aH,dQ] at this;exact this.1
 obtain⟨seq,rfl⟩:=nG Ws;refine⟨⟨seq,ky,v,d⟩,⟨hcell 0 (by omega),(zD b (n:=1) (by omega))▸hcell 1 (by omega),(zD b (n:=2) (by omega))▸hcell 2 (by omega),(zD b (n:=3) (by omega))▸hcell 3 (by omega)⟩,λB hB=>?_⟩;have m0:=hB ky.size (by simp[DataW.weights,DataW.weightsEach,underlying111,J6]);have m1:=hB v.size (by simp[DataW.weights,DataW.weightsEach,underlying111,J6]);exact⟨m0,m1⟩
instance:Inhabited Rc:=⟨⟨0,.empty,.empty,false⟩⟩
instance:Inhabited Sg:=⟨⟨0,[],[],false,false⟩⟩
instance:Inhabited Ot:=⟨⟨.empty,0,[]⟩⟩
theorem xo(b:Addr)(n:Nat)(cs:List Value)(y:DataW H×List MemPlace)(hc:W.cells? 0 b 3=some cs)(h:Rd enc W n 113 cs=some y):∃r,B_ W b r/\∀B,Wt y.1 113 B->r.name.size<=B/\r.bytes.length<=B:=by
 obtain⟨-,hl,hcell⟩:=World.cells?_some hc;obtain⟨c0,c1,c2,rfl⟩:=I1 hl;obtain⟨y0,y1,y2,k,rfl,-,h0,h1,h2⟩:=trod_struct3 underlying113 h;simp only[rN,rL,Za,kW,qC,kV,jk] at h0 h1 h2;obtain⟨ky,e0,rfl,hk⟩:=DataW.trod_string underlying9 h0;obtain⟨a,e1,rfl,wa⟩:=DataW.trod_int underlying3 h1;obtain⟨l,hb,hw⟩:=ZV h2;simp only[fC,and_true] at e0 e1;subst e0;subst e1;refine⟨⟨ky,a,l⟩,⟨c2,hcell 0 (by omega),(zD b (n:=1) (by omega))▸hcell 1 (by omega),(zD b (n:=2) (by omega))▸hcell 2 (by omega),hb⟩,λB hB=>⟨?_,?_⟩⟩
 ·exact hB ky.size (by simp[DataW.weights,DataW.weightsEach,underlying113,J6])
 ·exact hw B λn hn=>hB n (by
   unfold DataW.weights;rw[underlying113];exact DataW.weights_mem_each (j:=2) (t:=25) rfl rfl n hn)
theorem b1Y{t:TypeId}{f0 f1 f2 f3 f4:Field}{fuel:Nat}{cs:List Value}{x:DataW H×List MemPlace}(ht:prog.underlying t=some (.struct #[f0,f1,f2,f3,f4]))(h:Rd enc W fuel t cs=some x):
 ∃y0 y1 y2 y3 y4 n,x.1=.agg [y0.1,y1.1,y2.1,y3.1,y4.1]/\Rd enc W n f0.type ((cs.drop f0.offset).take (prog.cellsOf f0.type))=some y0/\
  Rd enc W n f1.type ((cs.drop f1.offset).take (prog.cellsOf f1.type))=some y1/\Rd enc W n f2.type ((cs.drop f2.offset).take (prog.cellsOf f2.type))=some y2/\
  Rd enc W n f3.type ((cs.drop f3.offset).take (prog.cellsOf f3.type))=some y3/\Rd enc W n f4.type ((cs.drop f4.offset).take (prog.cellsOf f4.type))=some y4:=by
 obtain⟨xs,n,_,rfl,hl,hlen,hf⟩:=DataW.trod_struct ht h
 match xs,hlen with
 | [y0,y1,y2,y3,y4],_=>exact⟨y0,y1,y2,y3,y4,n,by simp,by simpa using hf 0 f0 rfl,by simpa using hf 1 f1 rfl,by simpa using hf 2 f2 rfl,by simpa using hf 3 f3 rfl,by simpa using hf 4 f4 rfl⟩
theorem b1Z{t:TypeId}{f0 f1 f2 f3 f4 f5:Field}{fuel:Nat}{cs:List Value}{x:DataW H×List MemPlace}(ht:prog.underlying t=some (.struct #[f0,f1,f2,f3,f4,f5]))(h:Rd enc W fuel t cs=some x):
 ∃y0 y1 y2 y3 y4 y5 n,x.1=.agg [y0.1,y1.1,y2.1,y3.1,y4.1,y5.1]/\Rd enc W n f0.type ((cs.drop f0.offset).take (prog.cellsOf f0.type))=some y0/\
  Rd enc W n f1.type ((cs.drop f1.offset).take (prog.cellsOf f1.type))=some y1/\Rd enc W n f2.type ((cs.drop f2.offset).take (prog.cellsOf f2.type))=some y2/\
  Rd enc W n f3.type ((cs.drop f3.offset).take (prog.cellsOf f3.type))=some y3/\Rd enc W n f4.type ((cs.drop f4.offset).take (prog.cellsOf f4.type))=some y4/\
  Rd enc W n f5.type ((cs.drop f5.offset).take (prog.cellsOf f5.type))=some y5:=by
 obtain⟨xs,n,_,rfl,hl,hlen,hf⟩:=DataW.trod_struct ht h
 match xs,hlen with
 | [y0,y1,y2,y3,y4,y5],_=>exact⟨y0,y1,y2,y3,y4,y5,n,by simp,by simpa using hf 0 f0 rfl,by simpa using hf 1 f1 rfl,by simpa using hf 2 f2 rfl,by simpa using hf 3 f3 rfl,by simpa using hf 4 f4 rfl,by simpa using hf 5 f5 rfl⟩
theorem xn(b:Addr)(n:Nat)(cs:List Value)(y:DataW H×List MemPlace)(hc:W.cells? 0 b 5=some cs)(h:Rd enc W n 94 cs=some y):
 ∃s,zY W b s/\∀B,Wt y.1 94 B->s.tail.length<=B/\∀r∈s.recs,r.key.size<=B/\r.val.size<=B:=by
 obtain⟨-,hl,hcell⟩:=World.cells?_some hc;obtain⟨c0,c1,c2,c3,c4,rfl⟩:=IR hl;obtain⟨y0,y1,y2,y3,y4,k,hy,h0,h1,h2,h3,h4⟩:=b1Y underlying94 h;simp only[rN,xy,Za,YK,kW,qC,kV,jk] at h0 h1 h2 h3 h4;obtain⟨a,e0,rfl,wa⟩:=DataW.trod_int underlying3 h0;obtain⟨rs,hr,hrw⟩:=row_in (α:=Rc) (sz:=4) underlying92 (by kernel_rfl) Cc (λr B=>r.key.size<=B/\r.val.size<=B) xp h1;obtain⟨l,hb,hw⟩:=ZV h2;obtain⟨d3,e3,rfl⟩:=DataW.trod_bool underlying4 h3;obtain⟨d4,e4,rfl⟩:=DataW.trod_bool underlying4 h4;simp only[fC,and_true] at e0 e3 e4;subst e0;subst e3;subst e4;refine⟨⟨a,rs,l,d3,d4⟩,⟨c1,c2,hcell 0 (by omega),(zD b (n:=1) (by omega))▸hcell 1 (by omega),(zD b (n:=2) (by omega))▸hcell 2 (by omega),(zD b (n:=3) (by omega))▸hcell 3 (by omega),(zD b (n:=4) (by omega))▸hcell 4 (by omega),hr,hb⟩,λB hB=>?_⟩;unfold Wt at hB;rw[hy] at hB;have hm:∀j t d,([3,92,25,4,4]:List TypeId)[j]?=some t->([DataW.lit (.int .i64 a),y1.1,y2.1,.lit (.bool d3),.lit (.bool d4)]:List (DataW H))[j]?=some d->Wt d t B:=λj t d e1 e2 n hn=>hB n (by
  unfold DataW.weights;rw[underlying94];exact DataW.weights_mem_each e1 e2 n hn)
 exact⟨hw B (hm 2 25 _ rfl rfl),hrw B (hm 1 92 _ rfl rfl)⟩
theorem Pm{base:Nat}{v:Value}{d:DataW H}{p:List MemPlace}(hval:Value.okWide prog W .any base 27 v)(h:DataW.Trod enc prog W 0 (λ_=>true) true 27 v d p):
 ∃D:Dr,Ef W v D/\∀B,Wt d 27 B->D.Fits B:=by
 obtain⟨cs,rfl,hsz⟩:=okWide_struct underlying27 hval;obtain⟨n,h⟩:=h;have hl:cs.toList.length=6:=by
  have e:prog.cellsOf 27=6:=by kernel_rfl
  rw[kX,hsz];exact e
 obtain⟨c0,c1,c2,c3,c4,c5,hcs⟩:=IP hl;obtain rfl:cs=#[c0,c1,c2,c3,c4,c5]:=by cases cs;simp_all
 obtain⟨y0,y1,y2,y3,y4,y5,k,hy,h0,h1,h2,h3,h4,h5⟩:=b1Z underlying27 h;simp only[Value.cells,xF,xz,sd,Za,YK,kW,qC,kV,jk] at h0 h1 h2 h3 h4 h5;obtain⟨ss,hs,hsw⟩:=row_in (α:=Sg) (sz:=5) underlying22 (by kernel_rfl) zY (λs B=>s.tail.length<=B/\∀r∈s.recs,r.key.size<=B/\r.val.size<=B) xn h0;obtain⟨os,ho,how⟩:=row_in (α:=Ot) (sz:=3) underlying23 (by kernel_rfl) B_ (λr B=>r.name.size<=B/\r.bytes.length<=B) xo h1;obtain⟨a,e2,rfl,wa⟩:=DataW.trod_int underlying24 h2;obtain⟨l,hb,hw⟩:=ZV h3;obtain⟨d4,e4,rfl⟩:=DataW.trod_bool underlying4 h4;obtain⟨d5,e5,rfl⟩:=DataW.trod_bool underlying4 h5;simp only[fC,and_true] at e2 e4 e5;subst e2;subst e4;subst e5;have Ws:0<=a:=by
  have:=wa;simp only[Lit.wf,aH,dQ] at this;exact this.1
 obtain⟨g,rfl⟩:=nG Ws;refine⟨⟨ss,os,g,l,d4,d5⟩,⟨c0,c1,c3,rfl,hs,ho,hb⟩,λB hB=>?_⟩;have hy':d=.agg [y0.1,y1.1,.lit (.int .u64 (g:Int)),y3.1,.lit (.bool d4),.lit (.bool d5)]:=hy;unfold Wt at hB;rw[hy'] at hB;have hm:∀j t d,([22,23,24,25,4,4]:List TypeId)[j]?=some t->([y0.1,y1.1,.lit (.int .u64 (g:Int)),y3.1,.lit (.bool d4),.lit (.bool d5)]:List (DataW H))[j]?=some d->Wt d t B:=λj t d e1 e2 n hn=>hB n (by
  unfold DataW.weights;rw[underlying27];exact DataW.weights_mem_each e1 e2 n hn)
 have q0:=hsw B (hm 0 22 _ rfl rfl);exact⟨λs hs=>(q0 s hs).1,λs hs=>(q0 s hs).2,how B (hm 1 23 _ rfl rfl)⟩
end DF
end
end Go.Proofs.YtgpbhjjajpbeeaaGreatDoor
namespace Go.Proofs.YtgpbhjjajpbeeaaGreatDoor.opens
section
open Go.ChangeShapes Go.WideShapes Go.ChangeAt Go.RowKit Go.Joins Go.Lib Pl
theorem laidOut:laidOutB prog=true:=by kernel_rfl
theorem b5M:prog.readableRec 27=true:=by kernel_rfl
theorem b5N:prog.readableRec 73=true:=by kernel_rfl
abbrev laid:List (String×DataW Unit):=Rows.opensRow.laid
theorem c3T{W:World}(h:laidMetH prog laid W):Laid W:=by
 have h':laidMet prog (laid.filter λx=>x.2.handleName?.isNone) W/\handlesMet prog [("errors.errorType",Rows.laid_errors_errorType)] W:=h;obtain⟨name,u,ty,e1,e2,e3,e4,e5⟩:=h'.2 _ (fP.2 rfl);have en:name=[101,114,114,111,114]:=(aF e1).symm;subst en;obtain rfl:=aF (je.rt.symm.trans e2);have hm:ty∈(List.range 395).filter λt=>prog.rowNamed t [101,114,114,111,114]:=iR.2 ⟨fV.2 (by rw[<-je.size];exact e3),e4⟩;rw[je.oneRow] at hm;obtain rfl:=fP.1 hm;rw[je.handle] at e5;have:=World.var?_cell je.et e5 0;unfold Laid;simpa using this
theorem c1F{W:World}(h:laidMetH prog laid W):nZ W:=by
 have h':laidMet prog [("math/bits.deBruijn32tab",Rows.laid_math_bits_deBruijn32tab),("math/bits.deBruijn64tab",Rows.laid_math_bits_deBruijn64tab),("internal/strconv.uint64pow10",Rows.laid_internal_strconv_uint64pow10)] W:=
  (show laidMet prog (laid.filter λx=>x.2.handleName?.isNone) W/\handlesMet prog [("errors.errorType",Rows.laid_errors_errorType)] W from h).1
 obtain⟨ps,⟨_,_,_,_,_,_,_,_,_,_,⟨_,_,_,_,_,_,_,_,_,_,⟨g',t',cs,fuel,p,q,hg',ht',hvar,hd,_,_⟩,_⟩,_⟩,_⟩:=h';obtain rfl:=aF (je.g10.symm.trans hg');obtain rfl:=aF (je.Wv.symm.trans ht');unfold nZ TabIs;have hd':DataW.trod (λ_=>()) prog W 0 (λ_=>true) false fuel 353 cs.toList=some (tabData .u64 pow10Tab,p):=hd;rw[hvar,<-cells_of_tab underlying353 underlying24 (by kernel_rfl) (by kernel_rfl) hd']
theorem laidWorld_met(os:Os)(args:Array Value):laidMetH prog laid ((je.laidWorld os #[]).forCall (λ_ _=>0) ⟨#[],args,[]⟩).memory:=
 laidMetH_of_parts (laidMet_of_run3 8 (by kernel_rfl) (by kernel_rfl) (by kernel_rfl)) (by kernel_rfl)
theorem keys_in{H:Type}{enc:TypeId×Value->H}{W:World}{base:Nat}{v:Value}{d:DataW H}{p:List MemPlace}(hval:Value.okWide prog W .any base 73 v)(h:DataW.Trod enc prog W 0 (λ_=>true) true 73 v d p):
 ∃ba n bc,v=.slice ba n bc/\∀k,k<n->∃ad key,ba=some ad/\W.cell? (ad.add k)=some (bC key)/\key.length<=maxLen:=by
 obtain⟨a0,len0,cap0,rfl⟩:=okWide_slice underlying73 hval;obtain⟨fuel,hf⟩:=h;refine⟨a0,len0,cap0,rfl,λk hn=>?_⟩;rcases Go.Deep.open_strs underlying73 underlying9 (by kernel_rfl) hf with⟨hcs,hx⟩|⟨a,len,cap,m,Sx,hcs,hb,hl,hm,hmm,hx,hcell⟩
 ·simp only[Value.cells,fC,and_true] at hcs;injection hcs with e1 e2 e3;omega
 ·simp only[Value.cells,fC,and_true] at hcs;injection hcs with e1 e2 e3;subst e1;subst e2;subst e3;simp only[if_true] at hmm;have hc:=hcell k (by omega);refine⟨a,(Sx k).data.toList,rfl,hc.1.trans (congrArg some (VM _)),?_⟩;have:=hc.2;simpa using this
theorem run(H:Type)(enc:TypeId×Value->H)(W:World)(base:Nat)(args:Array Value)(ds gs:List (DataW H))(before:List MemPlace)
 (hval:∀(j:Nat)t v,Tryz.f5.params[j]?=some t->args[j]?=some v->Value.okWide prog W .any base t v)
 (hW:DataW.Whole enc prog Tryz.f5.params.toList Rows.opensSpec.vars false W args.toList ds gs before)(hL:laidMetH prog Rows.opensRow.laid W)
 (hB:(DataW.weightsEach prog [27,73] ds).all (· ≤ reachBytes)=true)(hS:W.ShapedOpen prog):
 Fs.So prog (λv W'=>Rows.opensSpec.post enc prog Tryz.f5 false true false false W args v W') (Go.Conc.G (Frame.enter prog 5 args .normal) []) W:=by
 have hW':=hW;obtain⟨p,q,hA0,hV,rfl,hfz,hnd⟩:=hW;have hA:DataW.TrodAll enc prog W 0 (λ_=>true) true Tryz.f5.params.toList args.toList ds p:=hA0;rw[params5] at hA hval;obtain⟨v0,vs0,d0,ds0,p0,q0,hargs,rfl,rfl,h0,r0⟩:=trodAll_cons hA;obtain⟨v1,vs1,d1,ds1,p1,q1,rfl,rfl,rfl,h1,r1⟩:=trodAll_cons r0;obtain⟨rfl,rfl,rfl⟩:=trodAll_nil r1;obtain rfl:args=#[v0,v1]:=by cases args;simp_all
 obtain⟨rfl,rfl⟩:=trodVars_none hV;obtain⟨D,hD,sg⟩:=DF.Pm (hval 0 27 v0 rfl rfl) h0;obtain⟨ba,n,bc,rfl,hb⟩:=keys_in (hval 1 73 v1 rfl rfl) h1;clear hA hA0 r0 r1 hargs hval hfz hnd;have hfit:D.Fits 281474976710656:=by
  have hall:=aQ.1 hB;have:=sg reachBytes (λn hn=>dF (hall n (DataW.weights_mem_each (j:=0) (t:=27) rfl rfl n hn)));unfold reachBytes at this;exact⟨λs hs=>by have:=this.tail s hs;omega,λs hs r hr=>by have:=this.recs s hs r hr;omega,λs hs=>by have:=this.other s hs;omega⟩
 simp only[dO] at hW';refine(yn v0 D ba n bc W hD hfit hS (c3T hL) (c1F hL) hb).mono λv W'⟨he,hE⟩=>?_;subst he;refine je.qZ (pa:=p0++p1) (pv:=[]) hW' (λ_ _ _=>trodAll_cons_mk (shut_bool underlying4 _) trodAll_mk0) (λsp hsp=>?_) (λ_ _=>rfl) hE;have hlt:=hW'.lt;have t0:DataW.Trod enc prog W' 0 sp true 27 v0 d0 p0:=Go.WideElems.Trod_stays laidOut b5M (dF (by kernel_rfl)) h0 (λq hq=>je.ng hE (hlt q (by simp[hq]))) (λq hq=>hsp q (by simp[hq]));have t1:DataW.Trod enc prog W' 0 sp true 73 (.slice ba n bc) d1 p1:=Go.WideElems.Trod_stays laidOut b5N (dF (by kernel_rfl)) h1 (λq hq=>je.ng hE (hlt q (by simp[hq]))) (λq hq=>hsp q (by simp[hq]));have t3:=trodAll_cons_mk t0 (trodAll_cons_mk t1 trodAll_mk0);simp only[dO] at t3;rw[params5];exact t3
abbrev YU:Array Value:=#[.agg #[.slice none 0 0,.slice none 0 0,.int .u64 0,.slice none 0 0,.bool false,.bool false],.slice none 0 0]
theorem reads(os:Os){H:Type}(enc:TypeId×Value->H):∃places,DataW.whole enc prog ((je.laidWorld os #[]).forCall (λ_ _=>0) ⟨#[],YU,[]⟩).memory Tryz.f5.params.toList Rows.opensSpec.vars false YU.toList 8=some ([.agg [.nil,.nil,.lit (.int .u64 0),.nil,.lit (.bool false),.lit (.bool false)],.nil],[],places):=
 ⟨[],by kernel_rfl⟩
theorem lifted(os:Os)(started:os.Started)(H:Type)(enc:TypeId×Value->H)(F:Stop.Interp):
 ReturnsInLeavingWide {} checked os 5 .any ((OpenSpec.ofChange Rows.opensSpec).preRow enc prog Tryz.f5 Rows.opensRow.domain false Rows.opensRow.laid) (((OpenSpec.ofChange Rows.opensSpec).at F).post enc prog Tryz.f5 false true false false):=by
 obtain⟨places,hx⟩:=reads os enc;refine Fs.jS (C:=checked) (s:=OpenSpec.ofChange Rows.opensSpec) je.own started func5
  (witness_row_at (enc:=enc) (C:=checked) false (je.laidWorld os #[]) YU rfl (by kernel_rfl) (by kernel_rfl) (by kernel_rfl)
    (OpenSpec.preRow_of_cond 8 hx (by kernel_rfl) (λk hk=>by cases hk) (by kernel_rfl) (laidWorld_met os _))) ?_
 intro W base args ds gs before hval hW hcond h2 h3 hL h4 h5;have hgs:gs=[]/\ds=ds++gs:=by
  obtain⟨p,q,_,hV,_⟩:=hW;obtain⟨rfl,_⟩:=trodVars_none hV;exact⟨rfl,(dO _).symm⟩
 obtain⟨rfl,-⟩:=hgs;rw[dO] at h3;exact run H enc W base args ds [] before hval hW hL h3 h4
theorem j1:(Rows.opensRow.inPlace==prog.inPlace 5)=true:=by kernel_rfl
theorem j2:(Rows.opensRow.unfollowed==prog.unfollowed 5)=true:=by kernel_rfl
theorem j3:(Rows.opensRow.recurses==prog.recurses 5)=true:=by kernel_rfl
theorem j4:(Rows.opensRow.named==prog.varsNamed 5)=true:=by kernel_rfl
theorem j5:prog.mayEnter=true:=by kernel_rfl
theorem j6:laidOutB prog=true:=by kernel_rfl
theorem j7:mapsRowed prog=true:=by kernel_rfl
theorem j8:Rows.opensRow.wf (OpenSpec.ofChange Rows.opensSpec)=true:=by kernel_rfl
theorem closed:joinedFacts prog 5 Tryz.f5 Rows.opensSpec Rows.opensRow=true:=by
 unfold joinedFacts;simp only[aH];repeat' apply And.intro
 all_goals first|(with_reducible exact j1)|(with_reducible exact j2)|(with_reducible exact j3)|(with_reducible exact j4)|(with_reducible exact j5)|(with_reducible exact j6)|(with_reducible exact j7)|(with_reducible exact j8)|kernel_rfl
theorem proved:Rows.OpensSaid:=
 OpenClaim.holds_of_wide_leaving 5 Tryz.f5 rfl rfl rfl rfl rfl rfl rfl ⟨rfl,rfl,rfl,rfl,rfl⟩ rfl rfl rfl rfl rfl (by kernel_rfl) func5 closed
  (dF (by kernel_rfl)) (by unfold Func.isWrapper;first|(rw[if_pos (by decide +kernel)];kernel_rfl)|(rw[if_neg (by decide +kernel)];exact⟨rfl,rfl⟩))
  (λos started H enc _=>by rw[OpenClaim.pre_eq_preRow];exact lifted os started H enc (λ_ _ _=>default))
theorem plain(f:FuncId)(fn:Func)(hf:Tryz.pinned.checked.prog.funcNamed "keydir/keydirlaw.Opens" = some f)(hfn:Tryz.pinned.checked.prog.funcs[f]?=some fn):
 true=Tryz.pinned.checked.prog.looks []/\∀(j:Nat)t,fn.params[j]?=some t->Tryz.pinned.checked.prog.wantsStandIn t=false:=by
 obtain rfl:f=5:=aF ((show prog.funcNamed "keydir/keydirlaw.Opens" = some 5 by kernel_rfl).symm.trans hf) |>.symm;obtain rfl:fn=Tryz.f5:=(aF (func5.symm.trans hfn)).symm;refine⟨by kernel_rfl,λj t ht=>?_⟩;rw[params5] at ht;have hm:t=27\/t=73:=by simpa using Array.mem_of_getElem? ht
 rcases hm with rfl|rfl
 ·exact(show prog.wantsStandIn 27=false by kernel_rfl)
 ·exact(show prog.wantsStandIn 73=false by kernel_rfl)
theorem card:Rows.OpensCardSaid:=
 je.wu _ _ _ proved (by kernel_rfl) opens_row_tie rfl ⟨rfl,rfl⟩ (by kernel_rfl) rfl plain (by kernel_rfl)
#print axioms card
end
end Go.Proofs.YtgpbhjjajpbeeaaGreatDoor.opens
