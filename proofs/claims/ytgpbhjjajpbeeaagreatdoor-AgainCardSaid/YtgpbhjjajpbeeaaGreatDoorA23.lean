/- A part of what the last file proves. -/
import Derived.Test.YtgpbhjjajpbeeaaGreatDoorA22
import Derived.Laws.StructEq
import Derived.Sort.MapsRangeIn
import Derived.Sort.KeysCollected
import Derived.RangeFuncStops
import Derived.RangeFuncNested
import Derived.RangeFuncBound
import Derived.RangeFuncCalls
import Derived.RangeFuncLeaves
import Derived.Shelf.Abstract
import Derived.Shelf.AbstractIn
import Derived.Shelf.RegionOpen
import Derived.OwnWalkIn
import Derived.TacticsInMore
import Derived.RegionIn
import Derived.LoopNIn
import Derived.LoopIn
import Derived.Maps.AppendAt
import Derived.Sort.Walk0
set_option linter.all false
set_option maxRecDepth 100000
set_option maxHeartbeats 6400000
open Go.Proofs.Tryz
namespace Go.Proofs.YtgpbhjjajpbeeaaGreatDoor
open Go.RowKit Go.Lib Go.Maps Dk Pl Go.Conc To
variable{A B a f i k q r x:Nat}{γ:Type}{w:aB}{t v:Option Addr}{c:fC}{d:D}{F:tyP}
theorem c6u(a b c d:Int)(w:aB):(binOp .eql 158 (.agg #[.int .i64 a,.int .i64 b]) (.agg #[.int .i64 c,.int .i64 d])).run prog w=.ok (.bool (a==c&&b==d)) w:=by
 have u3:=underlying3;have key:(Op.equalIn 10000 158 (.agg #[.int .i64 a,.int .i64 b]) (.agg #[.int .i64 c,.int .i64 d])).run prog w=.ok (a==c&&b==d) w:=by
  rw[show(10000:Nat)=9999+1 from rfl,run_equalIn_struct w 9999 158 _ _ aW aW];simp only[Program.fieldsOf,underlying158];go_simp
  by_cases h1:a=c<;>by_cases h2:b=d<;>simp[h1,h2]
 simp[binOp,Op.equal,Op.maxDepth,key]
def AG(w:aB):(zeroValue 160).run prog w=.ok (.agg #[.int .i64 0,.int .i64 0,.int .i64 0,.int .u64 0,.string ⟨#[]⟩,.string ⟨#[]⟩,.bool false]) w:=aW
def fieldPlace(a b c d:Int)(k v:ByteArray)(e:Bool)(w:aB):(Instr.field 160 (.agg #[.int .i64 a,.int .i64 b,.int .i64 c,.int .u64 d,.string k,.string v,.bool e]) 0).run prog w=.ok (.agg #[.int .i64 a,.int .i64 b]) w:=aW
def Af(f g:Fd):Bool:=decide (f.1=g.1)&&decide (f.2.1=g.2.1)
theorem b99(f g:Fd):((f.1:Int)==(g.1:Int)&&(f.2.1:Int)==(g.2.1:Int))=Af f g:=by
 unfold Af;congr 1
 ·by_cases h:f.1=g.1
  ·simp[h]
  ·have:¬(f.1:Int)=(g.1:Int):=aj
   simp[h,this]
 ·by_cases h:f.2.1=g.2.1
  ·simp[h]
  ·have:¬(f.2.1:Int)=(g.2.1:Int):=aj
   simp[h,this]
theorem b61(sb r:Nat)(c0 c1 c2 c3 c5:aX)(l:List (Nm×Fd))(f g:Fd)(w:aB)(hb:o6 w sb 138 #[c0,c1,c2,c3,.map (some r),c5])(hM:vH w r l)(hk:f.2.2.key.length<=maxLen)(hg:A7 l f.2.2.key=some g):
 Calls prog 129 #[l9 sb,YR f] w λe w'=>e=.returned (.bool (Af g f))/\Ext w w':=by
 obtain⟨w1,hw1⟩:∃w1,w.alloc (.cells #[.int .i64 f.1,.int .i64 f.2.1,.int .i64 f.2.2.size,.int .u64 f.2.2.seq,.string ⟨f.2.2.key.toArray⟩,.string ⟨f.2.2.val.toArray⟩,.bool f.2.2.del] 160)=w1:=⟨_,rfl⟩;have hE1:Ext w w1:=hw1▸(dh w).new _;have hx:o6 w1 w 160 #[.int .i64 f.1,.int .i64 f.2.1,.int .i64 f.2.2.size,.int .u64 f.2.2.seq,.string ⟨f.2.2.key.toArray⟩,.string ⟨f.2.2.val.toArray⟩,.bool f.2.2.del]:=hw1▸jR _ _ rfl;have hlk:=((hM.ext hE1).ext (Below.drew (dh w1))).look X0 U0 underlying136 (AG w1.drew) (vI hk);rw[hg] at hlk;have uF:(Instr.lookup 136 (.map (some r)) (.string ⟨f.2.2.key.toArray⟩) false).run prog w1.drew=.ok (.agg #[.int .i64 g.1,.int .i64 g.2.1,.int .i64 g.2.2.size,.int .u64 g.2.2.seq,.string ⟨g.2.2.key.toArray⟩,.string ⟨g.2.2.val.toArray⟩,.bool g.2.2.del]) w1.drew:=hlk;have heq:=λwx=>c6u g.1 g.2.1 f.1 f.2.1 wx;have hfd:=fieldPlace g.1 g.2.1 g.2.2.size g.2.2.seq ⟨g.2.2.key.toArray⟩ ⟨g.2.2.val.toArray⟩ g.2.2.del w1.drew;have hsp:=b99 g f;have d4:w1.drew.cell? ⟨sb,4,none⟩=some (.map (some r)):=((hE1.block sb hb.lt).trans hb |> λh:o6 w1 sb _ _=>h.cell 4).trans rfl;have x0:w1.drew.cell? w=_:=(hx.cell 0).trans (show _=some (Value.int .i64 f.1) from rfl);have x1:w1.drew.cell? ⟨w,1,none⟩=_:=(hx.cell 1).trans (show _=some (Value.int .i64 f.2.1) from rfl);have x2:w1.drew.cell? ⟨w,2,none⟩=_:=(hx.cell 2).trans (show _=some (Value.int .i64 f.2.2.size) from rfl);have x4:w1.drew.cell? ⟨w,4,none⟩=_:=(hx.cell 4).trans (show _=some (Value.string ⟨f.2.2.key.toArray⟩) from rfl);have HE:=ah hE1;have HS:=ah hsp;have HW:=ah hw1;clear hlk hM hb hx hE1 hsp hw1;unfold l9 YR O6;go_enter func129,ntmps129
 go_wp2_with fail
 rw[HW.out];go_region
 all_goals
  go_wp2;go_ret;exact⟨by rw[HS.out];rfl,Below.drew HE.out⟩
def F6(bss:fJ):List (List (Nat×Rec)):=bss.map D7
theorem MS(bss:fJ)(i:Nat)(a:i<bss.length):(F6 bss).getD i []=D7 (bss.getD i []):=by unfold F6;grind
def sP(bY:List (List (Nat×Rec)))(i k:Nat)(key:Nm):Prop:=∃(j m:Nat)(q:Nat×Rec),(bY.getD j [])[m]?=some q/\(i<j\/(j=i/\k<m))/\q.2.key=key
def dp(bY:List (List (Nat×Rec)))(i k:Nat):Prop:=∃p,(bY.getD i [])[k]?=some p/\p.2.del=false/\¬sP bY i k p.2.key
open Classical in
noncomputable def q_(bY:List (List (Nat×Rec)))(i k:Nat):Bool:=decide (dp bY i k)
theorem c3s{bY:List (List (Nat×Rec))}{b:Bool}(h:b=true<->dp bY i k):b=q_ bY i k:=by unfold q_;grind
def pq(bss:fJ)(n:Nat):List Fd:=(List.range n).flatMap λi=>(D7 (bss.getD i [])).map λp=>(i,p)
theorem bR(bss:fJ)(n:Nat):pq bss (n+1)=pq bss n++(D7 (bss.getD n [])).map λp=>(n,p):=by unfold pq;rw[nM];simp
theorem Jy(bss:fJ):∀n,O9 bss n=(pq bss n).foldl (λm f=>X4 m f.2.2.key f) []:=by
 intro n
 induction n with
 | zero=>rfl
 | succ n a=>rw[bR,lN,<-a,List.foldl_map];rfl
def lastOf(key:Nm):List Fd->Option Fd
 | []=>none
 | f::l=>(lastOf key l).or (if f.2.2.key=key then some f else none)
theorem Qu(key:Nm):∀(l:List Fd)(m:List (Nm×Fd)),A7 (l.foldl (λm f=>X4 m f.2.2.key f) m) key=(lastOf key l).or (A7 m key):=by
 intro l
 induction l with
 | nil=>intro m;rfl
 | cons f l a=>intro m;rw[kW,a,MN,lastOf];grind
theorem GF(key:Nm):∀(a b:List Fd),lastOf key (a++b)=(lastOf key b).or (lastOf key a):=by
 intro a b
 induction a with
 | nil=>simp[lastOf]
 | cons=>rw[List.cons_append,lastOf,lastOf];grind
theorem BS{key:Nm}:∀{l:List Fd}{f:Fd},lastOf key l=some f->f∈l/\f.2.2.key=key:=by
 intro l
 induction l with
 | nil=>intro f h;cases h
 | cons g l=>
  intro f h;rw[lastOf] at h
  cases e:lastOf key l<;>grind
theorem PT{key:Nm}:∀{l:List Fd},lastOf key l=none->∀f∈l,f.2.2.key≠key:=by
 intro l
 induction l with
 | nil=>simp
 | cons g l b=>
  intro h f a;rw[lastOf] at h
  cases e:lastOf _ l with
  | some=>grind
  | none=>
   rw[e] at h;simp at h;obtain rfl|a:=bI.1 a
   exact h
   exact b e f a
theorem b3V:∀(n a:Nat)(l:dV),∀p∈L9 n a l,a<=p.1:=by
 intro n
 induction n with
 | zero=>intro a l p h;cases h
 | succ n d=>
  intro a l p b;unfold L9 at b
  cases c:dec _ with
  | none=>grind
  | some=>
   rw[c] at b;obtain rfl|b:=bI.1 b
   apply ak
   have:=d _ _ p b;omega
theorem a4J:∀(n a:Nat)(l:dV),(L9 n a l).Pairwise λp q=>p.1<q.1:=by
 intro n
 induction n with
 | zero=>intro a l;exact .nil
 | succ n c=>
  intro a l;unfold L9
  cases d:dec _ with
  | none=>simp
  | some=>refine .cons (λq b=>?_)<|c _ _;have e:=b3V _ _ _ q b;have f:=(Ak d).1;omega
theorem Xb{bss:fJ}{n:Nat}{f:Fd}:f∈pq bss n<->f.1<n/\f.2∈D7 (bss.getD f.1 []):=by
 unfold pq;simp only[qj,iH,aQ];constructor
 rintro⟨i,d,p,a,rfl⟩;exact⟨d,a⟩
 rintro⟨c,b⟩;exact⟨f.1,c,f.2,b,rfl⟩
theorem b9Y{bss:fJ}{n:Nat}{p:Nat×Rec}(u:i<n)(o:(D7 (bss.getD i []))[k]?=some p):∃A B,pq bss n=A++(i,p)::B/\∀g,g∈B<->(g.1<n/\∃m,(D7 (bss.getD g.1 []))[m]?=some g.2/\(i<g.1\/(g.1=i/\k<m))):=by
 induction n with
 | zero=>omega
 | succ n t=>
  rw[bR];by_cases b:i<n
  let⟨A,B,e,s⟩:=t b;refine⟨A,B++(D7<|bss.getD n []).map λp=>(n,p),by rw[e];simp,λg=>?_⟩;rw[aP,s];constructor
  rintro(⟨l,a⟩|h)
  exact⟨aj,a⟩
  obtain⟨q,j,rfl⟩:=aQ.1 h;let⟨m,c⟩:=fP.1 j;exact⟨aj,m,c,.inl b⟩
  rintro⟨l,m,a,d⟩;obtain h|h:=bH g.1 n
  exact .inl ⟨h,m,a,d⟩
  have e:g.1=n:=aj
  refine .inr<|aQ.2 ⟨g.2,?_,?_⟩
  rw[<-e];exact aH a
  rw[<-e]
  obtain rfl:i=n:=aj
  let⟨r,f⟩:=aJ.1 o;have e:D7 (bss.getD i [])=(D7<|bss.getD i []).take k++p::(D7<|bss.getD i []).drop (k+1):=by rw[<-f,<-gy r,iy]
  refine⟨pq bss i++((D7<|bss.getD i []).take k).map λp=>(i,p),((D7<|bss.getD i []).drop<|k+1).map λp=>(i,p),?_,λg=>?_⟩
  conv=>lhs;rw[e]
  simp
  constructor
  intro h;obtain⟨q,j,rfl⟩:=aQ.1 h;let⟨m,c⟩:=fP.1 j;rw[lg] at c;exact⟨qc,k+1+m,c,.inr ⟨rfl,aj⟩⟩
  rintro⟨l,m,a,d⟩;have e:g.1=i/\k<m:=by omega
  refine aQ.2 ⟨g.2,fP.2 ⟨m - (k+1),?_⟩,?_⟩
  rw[lg,show k+1+(m - (k+1))=m by omega,<-e.1];exact a
  rw[<-e.1]
theorem b6S{bss:fJ}{m:Nat}{p q:Nat×Rec}(b:(D7 (bss.getD i []))[k]?=some p)(c:(D7 (bss.getD i []))[m]?=some q)(a:k<m):p.1<q.1:=by obtain⟨e,rfl⟩:=aJ.1 b;obtain⟨d,rfl⟩:=aJ.1 c;exact QK.1 (a4J _ _ _) k m e d a
theorem last_at{bss:fJ}{n:Nat}{p:Nat×Rec}(E:n=bss.length)(C:i<n)(v:(D7 (bss.getD i []))[k]?=some p):
 ∃f,A7 (O9 bss n) p.2.key=some f/\((f.1=i/\f.2.1=p.1)<->¬sP (F6 bss) i k p.2.key):=by
 obtain⟨A,B,e,u⟩:=b9Y C v;have o:A7 (O9 bss n) p.2.key=(lastOf p.2.key B).or (some (i,p)):=by rw[Jy,Qu,e,GF,lastOf];simp
 have a:sP (F6 bss) i k p.2.key<->∃g∈B,g.2.2.key=p.2.key:=by
  constructor
  rintro⟨j,m,q,c,d,t⟩;have z:j<bss.length:=by
   obtain h|h:=bH j _
   exact h
   have:(F6 bss).getD j []=[]:=by unfold F6;simp_all
   simp_all
  rw[MS _ _ z] at c;exact⟨(j,q),(u _).2 ⟨aj,m,c,d⟩,t⟩
  rintro⟨g,s,h⟩;let⟨c,m,d,t⟩:=(u g).1 s;exact⟨g.1,m,g.2,by rw[MS _ _ aj];exact d,t,h⟩
 cases b:lastOf _ B with
 | none=>
  rw[b] at o;refine⟨(i,p),qc,λ_ l=>?_,λ_=>⟨rfl,rfl⟩⟩;obtain⟨g,s,h⟩:=a.1 l
  exact PT b g s h
 | some f=>
  rw[b] at o;obtain⟨c,d⟩:=BS b;refine⟨f,qc,λ⟨y,D⟩=>?_,λh=>absurd (a.2 ⟨f,c,d⟩) h⟩;let⟨_,m,w,r⟩:=(u f).1 c;obtain r|⟨-,r⟩:=r
  omega
  rw[y] at w;have:=b6S v w r;omega
def sizes(l:List (Nat×Rec)):Nat:=(l.map λp=>p.2.size).sum
theorem b0a:∀(n a:Nat)(l:dV),a<=l.length->a+sizes (L9 n a l)<=l.length:=by
 intro n
 induction n with
 | zero=>intro a l h;trivial
 | succ n c=>
  intro a l h;unfold L9
  cases d:dec _ with
  | none=>trivial
  | some r=>have e:=(Ak d).2;rw[fG] at e;have:=c (a+r.size) l aj;simp[sizes,bD,mV] at this⊢;omega
theorem b3W:∀(n a:Nat)(l:dV),∀p∈L9 n a l,17<=p.2.size:=by
 intro n
 induction n with
 | zero=>intro a l p h;cases h
 | succ n d=>
  intro a l p b;unfold L9 at b
  cases c:dec (l.drop a) with
  | none=>grind
  | some=>
   rw[c] at b;obtain rfl|b:=bI.1 b
   exact(Ak c).1
   exact d _ _ p b
theorem Xx(l:dV):sizes (D7 l)<=l.length:=by have:=b0a (l.length+1) 0 l<|dD _;unfold D7;omega
def z'(l:dV):∀p∈D7 l,17<=p.2.size:=b3W _ _ _
theorem b6T{l:List (Nat×Rec)}{p:Nat×Rec}(h:l[k]?=some p):sizes (l.take (k+1))=sizes (l.take k)+p.2.size:=by unfold sizes;rw[cO,h];simp
theorem b1F(l:List (Nat×Rec))(k:Nat):sizes (l.take k)<=sizes l:=by
 have h:sizes (l.take k++l.drop k)=sizes (l.take k)+sizes (l.drop k):=by unfold sizes;rw[aY,qY]
 simp_all
theorem b9Z{l:List (Nat×Rec)}(h:∀p∈l,17<=p.2.size):l.length<=sizes l:=by
 induction l with
 | nil=>simp
 | cons p l c=>have a:=c λq b=>h q<|eX _ b;have d:=h p<|gQ ..;simp[sizes,bD,mV,dK] at a⊢;omega
def Xp(l:dV):(D7 l).length<=l.length:=ay (b9Z<|z' l)<|Xx l
theorem c3C{bss:fJ}{n:Nat}{p:Nat×Rec}(hn:n=bss.length)(hi:i<n)(hp:(D7 (bss.getD i []))[k]?=some p):∃g,A7 (O9 bss n) p.2.key=some g/\(!p.2.del&&Af g (i,p))=q_ (F6 bss) i k:=by
 obtain⟨g,h1,h2⟩:=last_at hn hi hp;refine⟨g,h1,c3s ?_⟩;have hs:((F6 bss).getD i [])[k]?=some p:=by rw[MS _ _ aj];exact hp
 constructor
 ·intro h;simp only[aI,j_,Af,bZ] at h;exact⟨p,hs,h.1,h2.1 h.2⟩
 ·rintro⟨q,h3,h4,h5⟩;rw[hs] at h3;injection h3 with h3;subst h3;simp only[aI,j_,Af,bZ];exact⟨h4,h2.2 h5⟩
theorem Zh(f:γ->List Value){N:Nat}(hf:∀x,(f x).length=N):∀(l:List γ)(i:Nat)(x:γ),l[i]?=some x->∀j,j<N->(l.flatMap f)[i*N+j]?=(f x)[j]?:=by
 intro l
 induction l with
 | nil=>intro i x h;simp at h
 | cons y l ih=>
  intro i x h j hj;rw[eY]
  cases i with
  | zero=>
   simp at h;subst h
   rw[bP (by rw[hf];omega)];simp
  | succ i=>
   simp at h;have e:(i+1)*N+j - N=i*N+j:=by rw[jw];omega
   rw[cZ (by rw[hf,jw];omega),hf,e];exact ih i x h j hj
theorem Dh{f:γ->List Value}{N:Nat}(hf:∀x,(f x).length=N){e:bT}{v:aX}{l:List γ}(h:w.ownsRow B e N v l.length (l.flatMap f)){t:γ}(hk:l[k]?=some t):
 ∃g cap,v=.slice (some ⟨g,0,none⟩) l.length cap/\l.length<=cap/\g<w.heap.size/\B<=g/\∀c x,(f t)[c]?=some x->w.cell? ⟨g,k*N+c,none⟩=some x:=by
 have hkl:k<l.length:=(aJ.1 hk).1;rcases h.2 with⟨_,h0⟩|⟨g,cap,cur,rfl,hb,hg,h1,h2,h3,h4⟩
 ·omega
 ·refine⟨g,cap,rfl,h1,lt_of_block hg,hb,λc x hx=>?_⟩;have hc:c<N:=by have:=(aJ.1 hx).1;rw[hf] at this;exact this
  have e1:=Zh f hf l k t hk c hc;rw[hx] at e1;have hlt:k*N+c<l.length*N:=by have:(k+1)*N<=l.length*N:=fH _ hkl;rw[jw] at this;omega
  rw[<-h4,fB,if_pos hlt] at e1;simp only[World.cell?,hg];simpa using e1
noncomputable def nJ(n:Nat):Code:=Code.behind n (Tryz.f8.body.getD .skip)
noncomputable def gB(n:Nat):Code:=Code.head (nJ n)
def c5R:(prog.info? 94).map (λi=>(i.zero,i.size,i.bytes))=some (some (.agg #[.int .i64 0,.slice none 0 0,.slice none 0 0,.bool false,.bool false]),5,64):=aW
def Dr.renew(d:Dr):Dr:={d with bY:=d.bY.mapIdx λi s=>{s with id:=(i:Int)+1,gone:=false},spoilt:=[],without:=false}
theorem Dr.Small.renew{d:Dr}(h:d.Small):d.renew.Small:=by
 have f:∀s∈d.renew.bY,∃a∈d.bY,s.recs=a.recs/\s.tail=a.tail:=λs b=>by obtain⟨i,g,rfl⟩:=Hu.1 b;exact⟨d.bY[i],bQ _,rfl,rfl⟩
 refine⟨?_,h.others,dD _,λs b=>?_,λs b=>?_,h.other⟩
 show(d.bY.mapIdx _).length<=60;rw[List.length_mapIdx];exact h.bY
 obtain⟨a,c,-,e⟩:=f s b;rw[e];exact h.tail a c
 obtain⟨a,c,e,-⟩:=f s b;rw[e];exact h.recs a c
def Ir(p:Sg×Value×Value):List Value:=[.int .i64 p.1.id,p.2.1,p.2.2,.bool p.1.listed,.bool p.1.gone]
def tL(p:Sg×Value×Value):(Ir p).length=5:=rfl
def DY(bY:List Sg)(a:Nat->Value×Value):List (Sg×Value×Value):=bY.mapIdx λi s=>(s,a i)
theorem add0(g m:Nat):(g:Addr).add m=⟨g,m,none⟩:=by unfold Addr.add;grind
theorem pw(bY:List Sg)(c:Nat->Value×Value):((DY bY c).flatMap Ir).length=bY.length*5:=by
 have:∀l:List _,(l.flatMap Ir).length=l.length*5:=λl=>by
  induction l with
  | nil=>rfl
  | cons=>rw[eY,aC,tL,dK];omega
 rw[this];unfold DY;simp
def XI(w:aB)(bY:List Sg)(a:Nat->Value×Value):Prop:=∀i s,bY[i]?=some s->RowOf w (a i).1 s.recs 4 Ef/\Bytes w (a i).2 s.tail
def XI.ext{w w':aB}{bY:List Sg}{c:Nat->Value×Value}(h:XI w bY c)(a:Ext w w'):XI w' bY c:=
 λi s b=>⟨(h i s b).1.ext λ_ _=>.ext a,(h i s b).2.ext a⟩
theorem c5S{bY:List Sg}(h:RowOf w (.slice v bY.length A) bY 5 qL):
 ∃f,vF w (.slice v bY.length A) bY.length ((DY bY f).flatMap Ir)/\XI w bY f:=by
 have p:∀i,∃u:Value×Value,∀s,bY[i]?=some s->∃b,v=some b/\w.cell? (b.add (i*5))=some (.int .i64 s.id)/\w.cell? ⟨b.block,b.off+(i*5+1),none⟩=some u.1/\w.cell? ⟨b.block,b.off+(i*5+2),none⟩=some u.2/\
  w.cell? ⟨b.block,b.off+(i*5+3),none⟩=some (.bool s.listed)/\w.cell? ⟨b.block,b.off+(i*5+4),none⟩=some (.bool s.gone)/\RowOf w u.1 s.recs 4 Ef/\Bytes w u.2 s.tail:=λi=>by
  cases l:bY[i]? with
  | none=>simp
  | some s=>
   obtain⟨b,e,S,I,K,q,r,D,y,B,z⟩:=h.at l;have F:(b.add (i*5)).block=b.block/\(b.add (i*5)).off=b.off+i*5:=by
    unfold Addr.add;split
    rename_i e;rw[e];exact⟨rfl,rfl⟩
    exact⟨rfl,rfl⟩
   rw[F.1,F.2] at q r D y;refine⟨(S,I),λY h=>?_⟩;injection h with h;subst h;simp[jV] at q r D y;simp_all
 obtain⟨f,g⟩:=gb p;obtain⟨a,c,e,q,r,-⟩:=id h;injection e with N _ O;subst N;subst O;refine⟨f,⟨v,A,rfl,q,r,λC=>?_⟩,λi s l=>?_⟩
 have n:0<bY.length:=Nat.pos_of_ne_zero λh=>C (by rw[eJ] at h;subst h;rfl);obtain⟨b,e,-⟩:=g 0 bY[0] (au n);refine⟨b,e,λm x G=>?_⟩;have V:=(aJ.1 G).1;have X:=pw bY f;obtain⟨j,M⟩:∃j,m%5=j:=⟨_,rfl⟩;let⟨i,E⟩:∃i,m/5=i:=⟨_,rfl⟩;have o:m=i*5+j:=aj
 have H:j<5:=aj
 let⟨s,l⟩:∃s,bY[i]?=some s:=⟨_,au aj⟩;obtain⟨W,t,Q,U,L,T,R,-⟩:=g i _ l;rw[e] at t;injection t with t;subst t;have J:(DY bY f)[i]?=some (s,f i):=by unfold DY;simp_all
 have d:=Zh Ir tL _ _ _ J j H;rw[<-o,G] at d;clear M E;subst o
 match j,H,d with
 | 0,_,d=>exact Q.trans d.symm
 | 1,_,d=>exact U.trans d.symm
 | 2,_,d=>exact L.trans d.symm
 | 3,_,d=>exact T.trans d.symm
 | 4,_,d=>exact R.trans d.symm
 obtain⟨b,-,-,-,-,-,-,B,z⟩:=g i s l;trivial
def QH(bY:List Sg)(a:Nat->Value×Value)(k:Nat)(xs:jl):Prop:=
 ∀i s,bY[i]?=some s->xs[i*5]?=some (.int .i64 (if i<k then(i:Int)+1 else s.id))/\xs[i*5+1]?=some (a i).1/\xs[i*5+2]?=some (a i).2/\xs[i*5+3]?=some (.bool s.listed)/\xs[i*5+4]?=some (.bool (if i<k then false else s.gone))
theorem c90(bY:List Sg)(a:Nat->Value×Value):QH bY a 0 ((DY bY a).flatMap Ir):=λi s c=>by
 have b:(DY bY a)[i]?=some (s,a i):=by unfold DY;grind
 have h:=Zh _ tL _ _ _ b;exact⟨h 0<|dA,h 1<|dA,h 2<|dA,h 3<|dA,h 4<|dA⟩
theorem c2l{bY:List Sg}{c:Nat->Value×Value}{xs:jl}(h:QH bY c k xs)(o:k*5+4<xs.length):QH bY c (k+1) ((xs.set (k*5) (.int .i64 ((k:Int)+1))).set (k*5+4) (.bool false)):=λi s l=>by
 obtain⟨g,n,d,j,f⟩:=h i s l;have a:∀m,((xs.set (k*5) (.int .i64<|(k:Int)+1)).set (k*5+4)<|.bool false)[m]?=if m=k*5+4 then some _ else if m=k*5 then some _ else xs[m]?:=λm=>by
  by_cases e:m=k*5+4
  rw[if_pos e,e,List.getElem?_set_self<|iL]
  rw[if_neg e,mZ<|aj];by_cases e:m=k*5
  rw[if_pos e,e,List.getElem?_set_self<|aj]
  rw[if_neg e,mZ<|aj]
 refine⟨(a _).trans ?_,(a _).trans ?_,(a _).trans ?_,(a _).trans ?_,(a _).trans ?_⟩
 rw[if_neg aj];by_cases e:i=k
 rw[if_pos aj,if_pos<|aj,e]
 rw[if_neg aj,g];by_cases b:i<k
 rw[if_pos b,if_pos<|aj]
 rw[if_neg b,if_neg<|aj]
 rw[if_neg aj,if_neg<|aj,n]
 rw[if_neg aj,if_neg<|aj,d]
 rw[if_neg aj,if_neg<|aj,j]
 by_cases e:i=k
 rw[if_pos aj,if_pos<|aj]
 rw[if_neg aj,if_neg<|aj,f];by_cases b:i<k
 rw[if_pos b,if_pos<|aj]
 rw[if_neg b,if_neg<|aj]
theorem c2n{n:Nat}{xs:jl}{d:Dr}{o:Nat->Value×Value}(C:d.bY.length=n)(h:w.ownsRow B 94 5 (.slice t n f) n xs)(G:QH d.bY o n xs)(E:XI w d.bY o):
 RowOf w (.slice t n f) d.renew.bY 5 qL:=by
 have r:d.renew.bY.length=n:=by show(d.bY.mapIdx _).length=n;simp_all
 obtain⟨e,N⟩|⟨g,z,u,e,-,-,L,M,-,-⟩:=id h.2
 injection e with l A m;subst l;subst m;refine⟨none,0,by rw[r],aj,⟨aj,λ_=>rfl⟩,λi x k=>?_⟩;have:=(aJ.1 k).1;omega
 injection e with l A m;subst l;subst m;have H:maxLen<=9223372036854775807:=qc
 refine⟨some _,f,by rw[r],aj,⟨aj,λh=>by cases h⟩,λi x k=>⟨_,rfl,?_⟩⟩;rw[add0];have a:(d.bY.mapIdx _)[i]?=some x:=k;rw[List.getElem?_mapIdx] at a
 cases c:d.bY[i]? with
 | none=>simp_all
 | some s=>rw[c] at a;injection a with a;have D:=(aJ.1 c).1;let⟨q,v,y,I,p⟩:=G i s c;rw[if_pos aj] at q p;have b:∀j,j<5->w.cell? _=xs[i*5+j]?:=λj K=>h.cellAt _ aj;let⟨F,J⟩:=E i s c;subst a;exact⟨_,_,(b 0<|aj).trans q,(b 1<|aj).trans v,(b 2<|aj).trans y,(b 3<|aj).trans I,(b 4<|aj).trans p,F,J⟩
def Eh(k:Nat):Bool:=decide (k=2)||decide (5<=k/\k<=16)||decide (48<=k/\k<=107)
theorem c7I(k:Nat)(h:Eh k=true):k<108:=by unfold Eh at h;simp at h;omega
structure uV(W:World)(d:Dr)(a:Act)(w:World):Prop where
 at_:∃(b:Nat)(F:Nat->Prop)(D:Dk.D),a.tmps.size=108/\a.tmps[5]?=some (l9 b)/\(∀k,Eh k=true->k≠5->Fs.okV (a.tmps.getD k undef)=true)/\o7 w F b D/\Zu d.renew D/\d.bY.length<=60/\Ext W w/\∀b,F b->W.heap.size<=b
def qg(W:aB)(a:Act)(w:aB):Prop:=a.defers=[]/\a.tmps[2]?=some (.bool true)/\Ext W w
theorem c7J(n:Nat)(v:aX):#[v]++Array.replicate n undef=AN (1+n) (λk=>if k=0 then v else undef):=by
 rw[ZP (A:=AN<|1+n) (λ_=>rfl) (#[v]++.replicate n _) aZ];congr 1
 funext k
 rw[aV]
 match k with
 | 0=>rw[f_ aZ];rfl
 | k+1=>rw[JM aZ,kV];split<;>rfl
theorem c7K(v:aX)(d:Dr)(W:aB)(h:GI W v d)(hf:d.Fits 281474976710656)(hL:Laid W):
 Fs.WL prog (uV W d) (qg W) [gB 0,gB 1,gB 2,gB 3,gB 4,gB 5,gB 6,gB 7] ⟨#[v]++Array.replicate (108 - 1) undef,[]⟩ W:=by
 obtain⟨v0,N,R,rfl,Y,hr1,hr3⟩:=id h;obtain⟨J,I,rfl,hl0,hm0⟩:=Y.form;obtain⟨us,B,hus⟩:=c5S Y;rw[c7J 107];obtain⟨K,l⟩:∃K,K=Fs.WL prog (uV W d) (qg W) [gB 1,gB 2,gB 3,gB 4,gB 5,gB 6,gB 7]:=⟨_,rfl⟩;show(gB 0).wp prog (Fs.WK (Fs.WL prog (uV W d) (qg W) [gB 1,gB 2,gB 3,gB 4,gB 5,gB 6,gB 7]) (qg W)) _ _;rw[<-l];have HD:=ah h;have HL:=ah hL;have t:=ah l;have H_:=ah B;have AB:=ah hus;have HR1:=ah hr1;clear h hL l Y hr1 hr3 B hus;unfold gB nJ;simp only[Code.behind,Code.head,Tryz.f8,aG,AN,List.range,List.range.loop,bD,dS,reduceIte,Nat.reduceEqDiff];go_wp2_with fail
 refine⟨rfl,?_⟩;rw[t.out];clear t K;obtain⟨w,M⟩:∃w,W.heap.size=w:=⟨_,rfl⟩;have E:Ext W (W.alloc (.cells (Value.agg #[.slice J d.bY.length I,N,.int .u64 d.gen,R,.bool d.whole,.bool d.without]).cells 27)):=(dh W).new _;have y:o6 (W.alloc (.cells (Value.agg #[.slice J d.bY.length I,N,.int .u64 d.gen,R,.bool d.whole,.bool d.without]).cells 27)) w 27 #[.slice J d.bY.length I,N,.int .u64 d.gen,R,.bool d.whole,.bool d.without]:=jR _ _ M;rw[M];simp only[Value.cells] at E y;generalize W.alloc (.cells #[.slice J d.bY.length I,N,.int .u64 d.gen,R,.bool d.whole,.bool d.without] 27)=w1 at E y⊢;obtain⟨K,l⟩:∃K,K=Fs.WL prog (uV W d) (qg W) [gB 2,gB 3,gB 4,gB 5,gB 6,gB 7]:=⟨_,rfl⟩;show(gB 1).wp prog (Fs.WK (Fs.WL prog (uV W d) (qg W) [gB 2,gB 3,gB 4,gB 5,gB 6,gB 7]) (qg W)) _ _;rw[<-l];have t:=ah l;have LI:=ah M;clear l;unfold gB nJ;simp only[Code.behind,Code.head,Tryz.f8,aG];have b0:=(y.cell 0).trans (show _=some (Value.slice J d.bY.length I) from rfl);have b1:=(y.cell 1).trans (show _=some N from rfl);have b2:=(y.cell 2).trans (show _=some (Value.int .u64 d.gen) from rfl);have b3:=(y.cell 3).trans (show _=some R from rfl);have b4:=(y.cell 4).trans (show _=some (Value.bool d.whole) from rfl);have C:=(y.cell 5).trans (show _=some (Value.bool d.without) from rfl);have DK:=ah (c1y _ d w1 (HD.out.ext E) hf);have lQ:=ah E;have z:=ah y;clear y E hf HD M;go_wp2_with fail
 refine DK.out.mono ?_;rintro e w2 ⟨b,rfl,hsm,q⟩;have f:o6 w2 w 27 #[.slice J d.bY.length I,N,.int .u64 d.gen,R,.bool d.whole,.bool d.without]:=z.out.below q z.out.lt;have c3:=(f.cell 3).trans (show _=some R from rfl);have c5:=(f.cell 5).trans (show _=some (Value.bool d.without) from rfl);have z3:=f.free 3;have z5:=f.free 5;have x:=ah (lQ.out.trans q);have HS:=ah hsm;have z:=ah f;clear b0 b1 b2 b3 b4 C q hsm DK lQ f;go_wp2_with fail
 refine⟨rfl,?_⟩;rw[t.out];clear t K;obtain⟨K,l⟩:∃K,K=Fs.WL prog (uV W d) (qg W) [gB 3,gB 4,gB 5,gB 6,gB 7]:=⟨_,rfl⟩;show(gB 2).wp prog (Fs.WK (Fs.WL prog (uV W d) (qg W) [gB 3,gB 4,gB 5,gB 6,gB 7]) (qg W)) _ _;rw[<-l];have t:=ah l;clear l c3 z3;unfold gB nJ;simp only[Code.behind,Code.head,Tryz.f8,aG];go_wp2_with fail
 refine⟨rfl,?_⟩;rw[t.out];clear t K c5 z5;have X:W.heap.size<=w:=fE LI.out;have f:=z.out.set 5 (.bool false);have q:Ext W (w2.setCell ⟨w,5,none⟩ (.bool false)):=x.out.qF X;generalize w2.setCell ⟨w,5,none⟩ (.bool false)=w3 at f q⊢;have c3:=(f.cell 3).trans (show _=some R from rfl);have z3:=f.free 3;have z:=ah f;have x:=ah q;clear f q;obtain⟨K,l⟩:∃K,K=Fs.WL prog (uV W d) (qg W) [gB 4,gB 5,gB 6,gB 7]:=⟨_,rfl⟩;show(gB 3).wp prog (Fs.WK (Fs.WL prog (uV W d) (qg W) [gB 4,gB 5,gB 6,gB 7]) (qg W)) _ _;rw[<-l];have t:=ah l;have zL:=ah X;clear l X;unfold gB nJ;simp only[Code.behind,Code.head,Tryz.f8,aG];go_wp2_with fail
 refine⟨rfl,?_⟩;rw[t.out];clear t K c3 z3;have f:=z.out.set 3 (.slice none 0 0);have q:Ext W (w3.setCell ⟨w,3,none⟩ (.slice none 0 0)):=x.out.qF zL.out;generalize w3.setCell ⟨w,3,none⟩ (.slice none 0 0)=w4 at f q⊢;have c0':=(f.cell 0).trans (show _=some (Value.slice J d.bY.length I) from rfl);have z0:=f.free 0;have z:=ah f;have x:=ah q;clear f q;obtain⟨K,l⟩:∃K,K=Fs.WL prog (uV W d) (qg W) [gB 5,gB 6,gB 7]:=⟨_,rfl⟩;show(gB 4).wp prog (Fs.WK (Fs.WL prog (uV W d) (qg W) [gB 5,gB 6,gB 7]) (qg W)) _ _;rw[<-l];have t:=ah l;clear l;unfold gB nJ;simp only[Code.behind,Code.head,Tryz.f8,aG];have S:∀T:dU,T[2]?=some (.bool true)->qg W ⟨T,[]⟩ w4:=λT h=>⟨rfl,h,x.out⟩;have EG:=ah S;clear S
 cases b with
 | false=>
  go_wp2_with fail
  exact EG.out _ rfl
 | true=>
  go_wp2_with fail
  refine⟨rfl,?_⟩;rw[t.out];clear t K EG;obtain⟨K,l⟩:∃K,K=Fs.WL prog (uV W d) (qg W) [gB 6,gB 7]:=⟨_,rfl⟩;show(gB 5).wp prog (Fs.WK (Fs.WL prog (uV W d) (qg W) [gB 6,gB 7]) (qg W)) _ _;rw[<-l];have t:=ah l;clear l;unfold gB nJ;simp only[Code.behind,Code.head,Tryz.f8,aG];obtain⟨i0,hi,hz0,hz1,hz2⟩:=info_parts c5R;have hsg:=(HS.out trivial).bY;obtain⟨n,hn⟩:∃n,d.bY.length=n:=⟨_,rfl⟩;obtain⟨Q,BD⟩:∃Z,(DY d.bY us).flatMap Ir=Z:=⟨_,rfl⟩;have hX0:QH d.bY us 0 Q:=BD▸c90 d.bY us;have hone:∀u∈Q,u.oneCell'=true:=λu hu=>by rw[<-BD] at hu;obtain⟨p,hp,hu⟩:=qj.1 hu;unfold DY at hp;obtain⟨i,hi,rfl⟩:=Hu.1 hp;obtain⟨q1,q2⟩:=AB.out i _ (au hi);obtain⟨_,_,e1,-⟩:=q1.form;obtain⟨_,_,e2,-⟩:=q2.open;unfold Ir at hu;dsimp only at hu;rw[e1,e2] at hu;rcases(by simpa using hu:_\/_\/_\/_\/_) with rfl|rfl|rfl|rfl|rfl<;>rfl
  have B:vF w4 (.slice J n I) n Q:=by have:=H_.out.ext x.out;rw[BD,hn] at this;exact this
  have O:Q.length=n*5:=by rw[<-BD,pw,hn]
  have hlt:n<=60:=hn▸hsg;have hB4:w+1<=w4.heap.size:=z.out.lt;rw[hn] at c0';have HN:=ah hn;have HX0:=ah hX0;have H_:=ah B;have XU:=ah hone;have U:=ah O;clear BD hX0 B hone O hsg hn;go_wp2_with (at_builtin;go_must (refine A8 rfl _ _ 22 rfl (w+1) 94 i0 (.agg #[.int .i64 0,.slice none 0 0,.slice none 0 0,.bool false,.bool false]) 5 64 underlying22 hi hz0 hz1 hz2 rfl aj (.slice none 0 0) 0 [] rfl ⟨rfl,.inl ⟨rfl,rfl⟩⟩ (.slice J n I) n Q rfl H_.out U.out XU.out lJ aj hB4 ?_);intro C H w5 G kD vZ;have L:=z.out.grown kD (λk h=>by cases h);have z05:=L.free 0;have c05:=(L.cell 0).trans (show _=some (Value.slice J d.bY.length I) from rfl);have JF:=ah G;have HG5:=ah kD;have O2:=ah L;clear G kD vZ L)
  refine⟨rfl,?_⟩;rw[t.out];clear t K c05 z05 c0' z0;have xM:w5.ownsRow (w+1) 94 5 (.slice C n H) n Q:=by have:=JF.out;simpa using this
  have hne:=ownsRow_ne xM O2.out dA;have yN:=ownsRow_setCell_other (a:=w) xM hne (.slice C n H);have A:=O2.out.set 0 (.slice C n H);have kE:Ext W w5:=Below.grown x.out HG5.out (by have:=x.out.size;omega) (λr h=>by cases h);have V:Ext W (w5.setCell w (.slice C n H)):=kE.qF zL.out;have YG:=HX0.out;have hL6:=U.out;generalize w5.setCell w (.slice C n H)=w6 at yN A V⊢;have pX:=ah yN;have NQ:=ah A;have xq:=ah V;have HX6:=ah YG;clear xM hne yN A kE V YG hL6 JF HG5 O2 x z HX0 H_ XU hi hz0 hz1 hz2;obtain⟨K,l⟩:∃K,K=Fs.WL prog (uV W d) (qg W) [gB 7]:=⟨_,rfl⟩;show(gB 6).wp prog (Fs.WK (Fs.WL prog (uV W d) (qg W) [gB 7]) (qg W)) _ _;rw[<-l];have t:=ah l;clear l;unfold gB nJ;simp only[Code.behind,Code.head,Tryz.f8,aG];go_wp2_with fail
  go_loopw [4] (λi wr=>∃(k:Nat)(Z:jl),i=.int .i64 k/\k<=n/\o6 wr w 27 #[.slice C n H,N,.int .u64 d.gen,.slice none 0 0,.bool d.whole,.bool false]/\wr.ownsRow (w+1) 94 5 (.slice C n H) n Z/\QH d.bY us k Z/\Ext W wr) (λi _=>n - (intOf i).toNat)
  case atStart=>exact⟨0,Q,rfl,aj,NQ.out,pX.out,HX6.out,xq.out⟩
  case round=>
   obtain⟨k,Z,rfl,hk,y,o,hX,hE⟩:=hrel;have g0:=(y.cell 0).trans (show _=some (Value.slice C n H) from rfl);have z:=ah y;have HO:=ah o;have HX:=ah hX;have HE:=ah hE;by_cases hlt':k<n
   ·have hki:(k:Int)<(n:Int):=aj
    rcases id o.2 with⟨-,h0⟩|⟨g,cap,cur,e,hg,-,-,-,-,-⟩
    ·omega
    injection e with e1 _ e2;subst e1;subst e2;have hxl:=o.1;obtain⟨s,hs⟩:∃s,d.bY[k]?=some s:=⟨_,au (by rw[HN.out];exact hlt')⟩;obtain⟨q0,q1,q2,q3,q4⟩:=hX k s hs;have s0:=(o.cellAt (k*5) aj).trans q0;have f0:=o.frozenAt (k*5);have HQ4:=ah q4;have HXL:=ah hxl;clear y o hX hE q0 q1 q2 q3 q4 hxl;go_upto_region 11 with fail
    have A:=z.out.setOther (a:=⟨g,k*5,none⟩) (by show g≠w;omega) (.int .i64 ((k:Int)+1));have TS:=(HO.out.stored (k*5) (.int .i64 ((k:Int)+1))).1;have V:Ext W (wr.setCell ⟨g,k*5,none⟩ (.int .i64 ((k:Int)+1))):=HE.out.qF (by show W.heap.size<=g;have:=zL.out;omega);have q4:(Z.set (k*5) (.int .i64 ((k:Int)+1)))[k*5+4]?=_:=(mZ aj).trans HQ4.out;generalize wr.setCell ⟨g,k*5,none⟩ (.int .i64 ((k:Int)+1))=w7 at A TS V⊢;have g0':=(A.cell 0).trans (rfl);have s4:=(TS.cellAt (k*5+4) aj).trans q4;have f4:=TS.frozenAt (k*5+4);have ga:=ah A;have Ib:=ah TS;have yB:=ah V;clear A TS V q4 s0 f0;go_wp2_with fail
    go_roundw
    case rel=>exact⟨k+1,_,iE,aj,ga.out.setOther (a:=⟨g,k*5+4,none⟩) (by show g≠w;omega) _,(Ib.out.stored (k*5+4) _).1,c2l HX.out (by have:=HXL.out;omega),yB.out.qF (by show W.heap.size<=g;have:=zL.out;omega)⟩
    case measure=>simp[intOf];omega
   ·obtain rfl:k=n:=aj
    clear y o hX hE;go_wp2_with fail
    refine⟨rfl,?_⟩;rw[t.out];clear t;obtain⟨K,l⟩:∃K,K=Fs.WL prog (uV W d) (qg W) []:=⟨_,rfl⟩;show(gB 7).wp prog (Fs.WK (Fs.WL prog (uV W d) (qg W) []) (qg W)) _ _;rw[<-l];have t:=ah l;clear l;unfold gB nJ;simp only[Code.behind,Code.head,Tryz.f8,aG];have g1:=(z.out.cell 1).trans (show _=some N from rfl);have g2:=(z.out.cell 2).trans (rfl);have g3:=(z.out.cell 3).trans (rfl);have g4:=(z.out.cell 4).trans (rfl);have g5:=(z.out.cell 5).trans (rfl);have hdr:GI wr (.agg _) d.renew:=
     ⟨_,_,_,rfl,c2n HN.out HO.out HX.out (AB.out.ext HE.out),HR1.out.ext λ_ _=>GK.ext HE.out,⟨none,0,rfl,ak _,⟨aj,λ_=>rfl⟩,λh=>absurd rfl h⟩⟩
    have HDK:=ah (c0D _ d.renew wr hdr (HS.out trivial).renew (HL.out.ext HE.out));clear hdr;go_wp2_with fail
    refine HDK.out.mono ?_;rintro e w8 ⟨a,F,D,rfl,hD,hok,Pj,hF⟩;have HD:=ah hD;have Ly:=ah hok;have NX:=ah (HE.out.trans Pj);have HF:=ah (λb y=>ay HE.out.size (hF b y):∀b,F b->W.heap.size<=b);clear hD hok Pj hF HDK g0 g1 g2 g3 g4 g5;unfold l9;go_wp2_with fail
    refine⟨rfl,?_⟩;rw[t.out];refine⟨a,F,D,rfl,rfl,?_,HD.out,Ly.out,by rw[HN.out];exact hlt,NX.out,HF.out⟩;exactλk hk h5=>Fs.okV.all 108 [5] aW c7I hk (by simp[h5])
section
open Zn (tp kH)
def qy(K R:Act->World->Prop):Exit->Act->World->Prop
 | .normal,a,w=>a.defers=[]/\K a w
 | .ret,a,w=>R a w
 | _,_,_=>False
def oG(C:Nat->Code)(N R:Act->World->Prop):Nat->Nat->Act->World->Prop
 | 0,_,a,w=>N a w
 | m+1,k,a,w=>∀τ p,(C k).wp prog (qy (oG C N R m (k+1)) R) a (tp w τ p)
def oG.into{C:Nat->Code}{N R:Act->World->Prop}{m:Nat}{a:Act}(h:∀K,K=oG C N R m (k+1)->∀τ p,(C k).wp prog (qy K R) a (tp w τ p)):oG C N R (m+1) k a w:=h _ rfl
def qy.go{K a R:Act->World->Prop}{T:dU}(e:K=a)(h:a ⟨T,[]⟩ w):qy K R .normal ⟨T,[]⟩ w:=⟨rfl,e▸h⟩
def P_(C:Nat->Code)(rest:Code):Nat->Nat->Code
 | 0,_=>rest
 | m+1,k=>.seq (C k) (P_ C rest m (k+1))
section
variable[To.Lo]{Sh:Nat->Prop}{X:Tmp->Prop}{fn:FuncId}{Q:Exit->Act->World->(Nat->Prop)->Prop}{N R:Act->World->Prop}{rest:Code}{C:Nat->Code}
theorem aE(s:∀a w τ p,N a (tp w τ p)->N a w)(x:∀a w τ p,R a (tp w τ p)->R a w)(c:∀a w,N a w->Iv zone Sh X a w->mX prog fn rest Q a w Sh)(d:∀a w,R a w->Iv zone Sh X a w->Q .ret a w Sh):
 ∀(m k:Nat)(a:Act)(w:aB),(∀i,i<m->Zn.nU zb (C (k+i))=true/\Zn.iW X (C (k+i)))->oG C N R m k a w->Iv zone Sh X a w->mX prog fn (P_ C rest m k) Q a w Sh:=by
 intro m
 induction m with
 | zero=>exactλk a w _ h f=>c a w h f
 | succ m z=>
  intro k a w o h f;let⟨u,A⟩:=o 0 aj;refine Q5 (piece (λ_=>qy _ R) f (Zn.nU.sound u) A (λτ p=>h τ p) ?_);intro e n j τ p y B q;cases e<;>first|exact q.elim|skip
  refine⟨.inl rfl,λb _=>z _ n j (λi D=>?_) ?_ b⟩
  have:=o (i+1) aj;rwa [show k+(i+1)=k+1+i by omega] at this
  have q:=q.2
  cases m with
  | zero=>exact s _ _ _ _ q
  | succ=>trivial
  exact⟨.inr rfl,λb _=>d n j (x _ _ _ _ q) b⟩
end
theorem c7U(n:Nat)(v u x:aX):#[v,u,x]++Array.replicate n undef=AN (3+n) (λk=>if k=0 then v else if k=1 then u else if k=2 then x else undef):=by
 rw[ZP (A:=AN<|3+n) (λ_=>rfl) (#[v,u,x]++Array.replicate n _) aZ];congr 1
 funext k
 rw[aV]
 match k with
 | 0=>rw[f_ aZ];rfl
 | 1=>rw[f_ aZ];rfl
 | 2=>rw[f_ aZ];rfl
 | k+3=>rw[JM aZ,kV];split<;>rfl
end
def VJ:Value->Option (DataW Unit×List MemPlace):=λ_=>some (.nil,[])
theorem b73(f:Lit×DataW Unit->Bool):∀l:List (Lit×DataW Unit),(l.foldr DataW.insert []).any f=l.any f:=by
 intro l
 induction l with
 | nil=>rfl
 | cons p l a=>rw[List.foldr_cons,any_insert,a,List.any_cons]
theorem c6X{L:List (Nm×Fd)}(h:vH w r L)(G:L.length<=maxLen):
 ∃s:DataW Unit,w.ownsMap prog 9 VJ r L.length s/\Maps.size s=L.length/\∀x:Nm,has s (.string x)=true<->x∈L.map (·.1):=by
 let⟨k,f,A,C,F,E,u,c⟩:=h;have n:=by have:=congrArg (List.map Prod.fst) C;simpa [Function.comp_def] using this
 have l:=by have:=congrArg List.length C;simpa using this
 have d:∀e∈k.toList,∃x,x∈L.map _/\e.key=bJ x/\Go.WideElems.rd prog 9 VJ e=some (.string x,.nil):=λe b=>by let⟨p,g,j⟩:=aQ.1 (n▸ig b);let⟨t,B⟩:=u p g;obtain⟨x,a,rfl,-⟩:=Maps.keyOf_str underlying9 B;obtain rfl:p.1=x:=encStr_inj a;refine⟨p.1,ig g,j.symm,?_⟩;unfold Go.WideElems.rd VJ;simp_all
 refine⟨_,⟨k,f,A,⟨aj,⟨F,E,?_⟩,λe b=>?_⟩,aj,rfl⟩,?_,λx=>?_⟩
 rw[n];exact eu.2 ((eu.1 c).imp λq e=>q<|U0 _ _ e)
 obtain⟨x,-,-,h⟩:=d e b;exact⟨_,h⟩
 rw[Maps.size_eq,length_sorted,bV,Array.length_toList,l]
 rw[has_eq,b73,List.any_eq_true];constructor
 rintro⟨p,g,o⟩;obtain⟨e,b,rfl⟩:=aQ.1 g;obtain⟨y,D,-,h⟩:=d e b;unfold Go.WideElems.rg at o;rw[h] at o;have:=by simpa [Lit.sameKey] using o
 exact this▸D
 intro i;have z:bJ x∈k.toList.map (·.key):=by rw[n];obtain⟨p,g,rfl⟩:=aQ.1 i;exact ig g
 let⟨e,b,m⟩:=aQ.1 z;let⟨y,D,v,h⟩:=d e b;refine⟨_,ig b,?_⟩;unfold Go.WideElems.rg;rw[h];obtain rfl:y=x:=U0 _ _<|v.symm.trans m;simp[Lit.sameKey]
abbrev LJ(L:List (Nm×Fd)):={x:Nm // x∈L.map (·.1)}
def qb{L:List (Nm×Fd)}(x:LJ L):Value:=encStr x.1
theorem c8L{L:List (Nm×Fd)}(F:Fence)(n:Nat)(I:F.fn 192)(B:F.round=none)(hn:1<=n){Bm b:Nat}(H:Bm<w)(hm:w.cell? Bm=some (.map (some b)))(j:vH w b L)(hL:L.length<=maxLen):
 SeqStops F n prog 192 #[.pointer (some Bm)] (qb (L:=L)) (λss=>(ss.map (·.1)).Perm (L.map (·.1))) (λ_=>True) L.length w:=λl J Jx W hW hJ _ hY h0=>by
 have T:=j.lt;obtain⟨E,z,P,g⟩:=c6X (j.block (hW.block b T)) hL;have hm':=(hW.cell (p:=Bm) H).trans hm;have u9:=run_underlying underlying9;refine callsIn_of_wp func192 rfl I ?_ B;simp only[ntmps192,lM,dK,jT,Nat.reduceAdd,Nat.reduceSub,iJ,iI,jA,iO,eF,List.cons_append]
 gi_wp2_with (first
  | (gi_at_range;refine wpListIn_range_own _ rfl _ 136 rfl 9 160 (string_keyed underlying9) underlying136 _ b L.length _ rfl z ?_;intro w0 hrg0 D hs0)
  | gi_in)
 go_frame
 gi_loopw [3] (λ_ wr=>∃(left:Lit->Bool)(cnt:Nat)(ss:List (LJ L)),wr.ranges prog 9 VJ b W L.length E left cnt/\ss.length+cnt<=L.length/\Collected E left (ss.map (·.1))/\J ss wr)
  (λ_ wr=>wr.rangeLeft b W)
 case atStart=>exact⟨_,_,[],hrg0,by simp[P],Collected.start E,hJ [] W w0 none h0 D (λr e=>by cases e)⟩
 case round=>
  obtain⟨left,cnt,ss,h,hcs,K,t⟩:=hrel
  gi_wp2_with (first
   | (gi_at_next;refine wpListIn_next_ranges _ rfl _ rfl 9 (string_keyed underlying9) VJ encStr id (λkey kl hk=>by obtain⟨x,hx,_⟩:=Maps.keyOf_str underlying9 hk;exact⟨x,hx⟩) (λv _ _=>⟨v,rfl⟩) b W L.length _ _ _ rfl h ?_ ?_)
   | gi_in)
  ·intro hc0 G;gi_wp2
   go_end0
   refine⟨⟨_,rfl⟩,.inl ⟨ss,?_,t⟩⟩;refine(jf K.1 (j.nodup)).2 λx=>?_;rw[K.2 x,G,<-g x];simp
  ·intro x c kl yd yp S m hkey O hv u k R M U hen;obtain⟨x',ex,rfl,_⟩:=Maps.keyOf_str underlying9 hkey;obtain rfl:x=x':=encStr_inj ex;have N:J ss S:=hJ ss wr S (some W.heap.size) t M (λr e=>by cases e;exact⟨ak _,h.iter_walk⟩);have i:x∈L.map (·.1):=(g x).1 (has_true_of_atKey u);obtain⟨fn,tmps,A,body,hy,hR⟩:=hY ss ⟨x,i⟩ S N aj;unfold qb at hy;dsimp only at hy;clear U;gi_wp2
   refine hR.mono ?_;have Q:=K.step O u;rintro e W3 (⟨rfl,C,V⟩|⟨rfl,y⟩)
   ·gi_wp2
    have f:=k.of_walks V;go_roundw
    case rel=>exact⟨_,m,ss++[⟨x,i⟩],f,iw,by rw[aY];exact Q,C⟩
    case measure=>rw[f.left_eq,h.left_eq];exact R
   ·gi_wp2
    refine bodyPost_ret (results_none rfl _ _ _) rfl ?_;exact⟨⟨_,rfl⟩,.inr ⟨ss++[⟨x,i⟩],trivial,y⟩⟩
def rH(r:Rec):List (Nm×Nm)->Bool->List (Nm×Nm)
 | [],a=>if a then[] else[(r.key,r.val)]
 | p::l,a=>(if !a&&!Op.bytesLess p.1 r.key then[(r.key,r.val)] else[])++((if p.1=r.key then[] else[p])++rH r l (a||!Op.bytesLess p.1 r.key))
def xU(l:List (Nm×Nm))(r:Rec):List (Nm×Nm):=rH r l r.del
theorem c4S(r:Rec):∀(l:List (Nm×Nm))(a:Bool),(rH r l a).length<=l.length+(if a then 0 else 1):=by
 intro l
 induction l with
 | nil=>intro a;cases a<;>simp[rH]
 | cons p l d=>
  intro a;rw[rH];have:=d<|a||!Op.bytesLess p.1 r.key;have e:(if p.1=r.key then[] else[p]).length<=1:=by split<;>simp
  cases a<;>cases c:Op.bytesLess _ _<;>simp[c] at this⊢<;>omega
def F9(p:Nm×Nm):List Value:=[.string ⟨p.1.toArray⟩,.string ⟨p.2.toArray⟩]
def Y8(l:List (Nat×Rec)):List (Nm×Nm):=l.foldl (λm q=>xU m q.2) []
theorem b4x(l:List (Nat×Rec))(q:Nat×Rec):Y8 (l++[q])=xU (Y8 l) q.2:=by unfold Y8;simp
theorem K'(l:List (Nat×Rec)):(Y8 l).length<=l.length:=by
 suffices h:∀(l:List _)(m:List _),(l.foldl _ m).length<=m.length+l.length by simpa [Y8] using h l []
 intro l
 induction l with
 | nil=>simp
 | cons q l b=>intro m;have:=b<|xU m q.2;have c:=c4S q.2 m q.2.del;unfold xU at this;rw[kW,dK];unfold xU;split at c<;>omega
def mQ(bY:List (List (Nat×Rec))):List (Nm×Nm):=Y8 bY.flatten
def ahead(bY:List (List (Nat×Rec)))(i m:Nat):List (Nat×Rec):=(bY.take i).flatten++(bY.getD i []).take m
theorem b76{bY:List (List (Nat×Rec))}{m:Nat}{q:Nat×Rec}(h:(bY.getD i [])[m]?=some q):ahead bY i (m+1)=ahead bY i m++[q]:=by unfold ahead;rw[cO,h];simp
theorem xy{bY:List (List (Nat×Rec))}(a:i<bY.length):ahead bY i (bY.getD i []).length=ahead bY (i+1) 0:=by
 unfold ahead;have e:bY.take (i+1)=bY.take i++[bY[i]]:=aZ
 have b:bY.getD i []=bY[i]:=fU
 rw[b,e,List.flatten_append];simp
theorem xp(bY:List (List (Nat×Rec))):ahead bY bY.length 0=bY.flatten:=by unfold ahead;simp
theorem xo{bY:List (List (Nat×Rec))}(a:∀i,17*(bY.getD i []).length<=B):∀(i m:Nat),i<=bY.length->m<=(bY.getD i []).length->17*(ahead bY i m).length<=(i+1)*B:=by
 intro i
 induction i with
 | zero=>
  intro m _ b;have:=a 0;unfold ahead;rw[List.take_zero,List.flatten_nil,eF,dH]
  omega
 | succ i f=>
  intro m h b;have e:=f _ aj<|ak _;rw[xy aj] at e;have c:(ahead bY (i+1) m).length=(ahead bY (i+1) 0).length+m:=by unfold ahead;grind
  have g:=a<|i+1;rw[c,(jw _ _:(i+1+1)*B=(i+1)*B+B)];omega
theorem yW(r:Rec)(key:Nm):∀(l:List (Nm×Nm))(a:Bool),(∀p∈l,p.1≠r.key->p∈rH r l a)/\(∀p∈rH r l a,(p∈l/\p.1≠r.key)\/(a=false/\p=(r.key,r.val))):=by
 intro l
 induction l with
 | nil=>
  intro a;refine⟨λp h=>(by cases h),λp h=>?_⟩;cases a<;>simp[rH] at h
  simp_all
 | cons q l i=>
  intro a;obtain⟨g,j⟩:=i<|a||!Op.bytesLess q.1 _;refine⟨λp h d=>?_,λp h=>?_⟩
  rw[rH];obtain rfl|h:=bI.1 h
  rw[if_neg d];simp
  grind
  obtain h|h:=aP.1 h
  grind
  obtain h|h:=aP.1 h
  grind
  obtain⟨b,c⟩|⟨b,c⟩:=j p h
  exact .inl ⟨eX _ b,c⟩
  grind
theorem y_(bss:fJ):∀n,n<=bss.length->(pq bss n).map Prod.snd=((F6 bss).take n).flatten:=by
 intro n
 induction n with
 | zero=>intro _;simp[pq]
 | succ n b=>
  intro d;have c:(F6 bss).length=bss.length:=by unfold F6;simp
  have e:(F6 bss).take (n+1)=(F6 bss).take n++[D7 (bss.getD n [])]:=by rw[cO];have:=MS _ n kT;grind
  rw[bR,aY,b<|aj,e,g_,show(Prod.snd∘λp=>(n,p))=id from rfl];simp
theorem b6Z:∀(l A:List Fd)(m:List (Nm×Nm)),(∀p∈m,∃f,lastOf p.1 A=some f/\f.2.2.del=false/\f.2.2.val=p.2)->
 ∀p∈(l.map Prod.snd).foldl (λm q=>xU m q.2) m,∃f,lastOf p.1 (A++l)=some f/\f.2.2.del=false/\f.2.2.val=p.2:=by
 intro l
 induction l with
 | nil=>simp
 | cons f l i=>
  intro A m h p b;have:=i (A++[f]) _ (λq j=>by
   rw[GF];obtain⟨a,k⟩|⟨a,rfl⟩:=(yW _ q.1 m _).2 q j
   let⟨g,c⟩:=h q a;refine⟨g,?_,c.2⟩;have e:lastOf q.1 [f]=none:=by rw[lastOf,if_neg λe=>k e.symm];rfl
   rw[e,c.1];rfl
   exact⟨f,by simp[lastOf],a,rfl⟩) p b
  grind
theorem Xa{bss:fJ}{n:Nat}(d:bss.length=n):∀p∈mQ (F6 bss),∃f,A7 (O9 bss n) p.1=some f/\f.2.2.del=false/\f.2.2.val=p.2:=by
 intro p a;have e:(F6 bss).flatten=(pq bss n).map Prod.snd:=by rw[y_ _ n aj,bU<|by unfold F6;grind]
 unfold mQ at a;rw[e] at a;let⟨f,b,c⟩:=b6Z _ [] [] (λ_ h=>by cases h) p a;rw[Jy,Qu];grind
theorem ZK{bss:fJ}{n:Nat}{key:Nm}{f:Fd}(h:A7 (O9 bss n) key=some f):f.1<n/\f.2∈D7 (bss.getD f.1 [])/\f.2.2.key=key:=by
 rw[Jy,Qu] at h
 cases e:lastOf _ _ with
 | none=>rw[e] at h;cases h
 | some=>let⟨a,b⟩:=BS e;unfold pq at a;grind
theorem c6V(r:Rec):∀l,(r.key,r.val)∈rH r l false:=by
 intro l
 induction l with
 | nil=>simp[rH]
 | cons=>
  rw[rH]
  cases b:Op.bytesLess _ _ with
  | false=>simp
  | true=>grind
theorem b5T(r:Rec):∀(l:List (Nm×Nm))(c:Bool),l.Pairwise (λa b=>a.1<b.1)->(rH r l c).Pairwise (λa b=>a.1<b.1):=by
 intro l
 induction l with
 | nil=>intro c _;cases c<;>simp[rH]
 | cons p l t=>
  intro c h;let⟨u,n⟩:=oI.1 h;have v:=λd=>(yW r p.1 l d).2;rw[rH,Go.Proofs.bytesLess_eq];by_cases j:p.1<r.key
  have s:p.1≠r.key:=λe=>by rw[e] at j;exact absurd j<|pV
  simp only[j,decide_true,vM,NT,s,Yt];refine oI.2 ⟨λq g=>?_,t c n⟩;obtain⟨e,_⟩|⟨_,rfl⟩:=v c q g
  exact u q e
  exact j
  have f:∀q∈rH r l true,p.1<q.1:=λq g=>by
   obtain⟨e,_⟩|⟨e,_⟩:=v _ q g
   exact u q e
   cases e
  simp[j];have m:((if p.1=r.key then[] else[p])++rH r l true).Pairwise (λa b=>a.1<b.1)/\∀q∈(if p.1=r.key then[] else[p])++rH r l true,r.key<q.1:=by
   split
   rename_i e;exact⟨t _ n,λq g=>e▸f q g⟩
   rename_i e;have k:=Std.lt_of_le_of_ne (Std.not_lt.1 j) (λw=>e w.symm);refine⟨oI.2 ⟨f,t _ n⟩,λq g=>?_⟩;obtain rfl|g:=bI.1 g
   exact k
   exact Std.lt_trans k<|f q g
  cases c with
  | true=>grind
  | false=>exact oI.2 ⟨m.2,m.1⟩
theorem MP(l:List (Nat×Rec)):(Y8 l).Pairwise (λa b=>a.1<b.1):=by
 suffices h:∀(l:List _)(m:List (Nm×Nm)),m.Pairwise (λa b=>a.1<b.1)->(l.foldl _ m).Pairwise _ from h l _ .nil
 intro l
 induction l with
 | nil=>simp
 | cons q l c=>exactλm h=>c _<|b5T _ _ _ h
theorem b71:∀(l A:List Fd)(m:List (Nm×Nm)),(∀k f,lastOf k A=some f->f.2.2.del=false->(k,f.2.2.val)∈m)->
 ∀k f,lastOf k (A++l)=some f->f.2.2.del=false->(k,f.2.2.val)∈(l.map Prod.snd).foldl (λm q=>xU m q.2) m:=by
 intro l
 induction l with
 | nil=>simp
 | cons g l d=>
  intro A m h k f a b;refine d (A++[g]) (xU m _) (λk f a b=>?_) k f fU b;rw[GF,lastOf,lastOf] at a;by_cases e:g.2.2.key=k
  subst e;simp at a;subst a;unfold xU;rw[b];apply c6V
  simp[e] at a;exact(yW _ k m _).1 _ (h k f a b) λc=>e c.symm
theorem vn{bss:fJ}{n:Nat}(a:bss.length=n):(F6 bss).flatten=(pq bss n).map Prod.snd:=by rw[y_ _ n aj,bU<|by unfold F6;grind]
theorem tn{bss:fJ}{n:Nat}(b:bss.length=n){k:Nm}{f:Fd}(h:A7 (O9 bss n) k=some f)(a:f.2.2.del=false):(k,f.2.2.val)∈mQ (F6 bss):=by
 rw[Jy,Qu] at h;unfold mQ;rw[vn b];refine b71 _ [] [] (λ_ _ h=>by cases h) k f ?_ a;rw[eF]
 cases e:lastOf k _ with
 | none=>rw[e] at h;cases h
 | some=>grind
theorem Da(bss:fJ)(n:Nat):((O9 bss n).map (·.1)).Nodup:=by
 rw[Jy];suffices h:∀(l:List Fd)(m:List (Nm×Fd)),(m.map (·.1)).Nodup->((l.foldl _ m).map _).Nodup from h _ _ aZ
 intro l
 induction l with
 | nil=>simp
 | cons q l a=>exactλm h=>a _<|cw h _ _
def CY(L:List (Nm×Fd)):List Nm:=(L.filter λp=>!p.2.2.2.del).map (·.1)
theorem c1q{bss:fJ}{n:Nat}(d:bss.length=n)(k:Nm):k∈CY (O9 bss n)<->k∈(mQ (F6 bss)).map (·.1):=by
 constructor
 intro h;obtain⟨p,a,rfl⟩:=aQ.1 h;let⟨c,b⟩:=dQ.1 a;let⟨j,g⟩:=gX c;have:=Dy (Da _ n) g;exact aQ.2 ⟨_,tn d this<|fU,rfl⟩
 intro h;obtain⟨p,a,rfl⟩:=aQ.1 h;obtain⟨f,c,b,-⟩:=Xa d p a;exact aQ.2 ⟨(p.1,f),dQ.2 ⟨Y4 c,fU⟩,rfl⟩
theorem QR{bss:fJ}{n:Nat}(g:bss.length=n):(CY (O9 bss n)).mergeSort qG=(mQ (F6 bss)).map (·.1):=by
 have d:((mQ<|F6 bss).map _).Pairwise _:=eu.2<|MP _;rw[AH (by
  refine(jf ?_ ?_).2 (c1q g)
  exact .sublist (.map _ List.filter_sublist)<|Da _ n
  grind)];refine List.mergeSort_of_pairwise<|d.imp λh=>?_;unfold qG;simpa using Std.le_of_lt h
section
attribute [local go_sem] Oper.semAt_some
def c4G(a b c d:Int)(k v:ByteArray)(e:Bool)(w:aB):(Instr.field 160 (.agg #[.int .i64 a,.int .i64 b,.int .i64 c,.int .u64 d,.string k,.string v,.bool e]) 2).run prog w=.ok (.agg #[.int .u64 d,.string k,.string v,.bool e]) w:=rfl
def c4H(d:Int)(k v:ByteArray)(e:Bool)(w:aB):(Instr.field 111 (.agg #[.int .u64 d,.string k,.string v,.bool e]) 3).run prog w=.ok (.bool e) w:=rfl
theorem b70(F:Fence)(n:Nat)(d:F.fn 168)(a:F.round=none)(b:Option Nat)(w:aB):
 CallsIn F n prog 168 #[.map b] w λe w'=>e=.returned (.func (.func 192) #[] #[.pointer (some w)])/\w'=w.alloc (.cells #[.map b] 136):=by
 refine callsIn_of_wp func168 rfl d ?_ a;gi_wp2
 go_ret;trivial
def Wy{L:List (Nm×Fd)}(x:LJ L):Bool:=match A7 L x.1 with|some f=>!f.2.2.del|none=>false
def vJ{L:List (Nm×Fd)}(l:List (LJ L)):List Nm:=(l.filter Wy).map (·.1)
theorem Q'{L:List (Nm×Fd)}(l:List (LJ L))(x:LJ L):vJ (l++[x])=vJ l++if Wy x then[x.1] else[]:=by unfold vJ;cases h:Wy x<;>simp[h]
theorem b5S{L:List (Nm×Fd)}(d:(L.map (·.1)).Nodup){l:List (LJ L)}(h:(l.map (·.1)).Perm (L.map (·.1))):(vJ l).Perm (CY L):=by
 have c:vJ l=(l.map (·.1)).filter λk=>match A7 L k with|some f=>!f.2.2.del|none=>false:=by rw[Hw];rfl
 have g:CY L=(L.map (·.1)).filter λk=>match A7 L k with|some f=>!f.2.2.del|none=>false:=by rw[Hw];refine congrArg _<|List.filter_congr λp b=>?_;let⟨j,e⟩:=gX b;simp only[Function.comp_apply];rw[Dy d e]
 rw[c,g];apply h.filter
theorem keys_in(n:Nat)(hn:3<=n){L:List (Nm×Fd)}(d4:w.cell? ⟨q,4,none⟩=some (.map (some r)))(m:vH w r L)(hL:L.length*16<=140737488355328)(hkl:∀p∈L,p.1.length<=maxLen):
 CallsIn Fence.wide n prog 131 #[l9 q] w λe w'=>∃v,e=.returned v/\w'.ownsRow w 9 1 v ((CY L).mergeSort qG).length (((CY L).mergeSort qG).map bJ)/\Ext w w':=by
 have h1:1<=n:=aj
 have z:Fence.wide.round=none:=rfl;have F:Fence.wide.fn 168:=trivial;have B:Fence.wide.fn 192:=trivial;have f123:Fence.wide.fn 123:=trivial;obtain⟨i0,hi,hz0,hz1,hz2⟩:=info_parts vj;have hml:L.length<=maxLen:=lJ
 have hsb:q<w.heap.size:=cell_lt d4;unfold l9;refine callsIn_of_wp_marks func131 rfl trivial ?_ z;simp only[ntmps131,lM,dK,jT,Nat.reduceAdd,Nat.reduceSub,iJ,iI,jA,iO,eF,List.cons_append];gi_wp2_with (gi_at_call 168;refine(b70 Fence.wide (n - 1) F z _ _).mono ?_;rintro e w' ⟨rfl,rfl⟩)
 obtain⟨o,y⟩:∃o,w.alloc (.cells #[.pointer (some q)] 32)=o:=⟨_,rfl⟩;have u:o.heap.size=w+1:=by rw[<-y];simp
 have S:Ext w o:=y▸(dh w).new _;have Kv:=m.ext S;rw[y];have bL:=Boxed.new o 73 (.slice none 0 0);have bM:=Boxed.new (o.alloc (.cells #[.slice none 0 0] 73)) 136 (.map (some r));have P:Below (w+1) o ((o.alloc (.cells #[.slice none 0 0] 73)).alloc (.cells #[.map (some r)] 136)):=by rw[<-u];exact((Below.refl _ o).alloc (ak _) _).alloc aZ _
 rw[World.size_alloc,u] at bM;rw[u] at bL;have ln:=bL.alloc (.cells #[.map (some r)] 136);obtain⟨w3,N⟩:∃w3,(o.alloc (.cells #[.slice none 0 0] 73)).alloc (.cells #[.map (some r)] 136)=w3:=⟨_,rfl⟩;have hs3:w3.heap.size=w+1+1+1:=by rw[<-N];simp[u]
 rw[N] at bM P ln⊢;clear bL N;refine wpIn_rangeFunc_ownG z h1 (gf:=192) (lb:=#[.pointer (some ⟨w+1+1,0,none⟩)]) rfl B (enters_of func192 aW rfl)
  (c8L Fence.wide (n - 1) B z aj (Bm:=w.heap.size+1+1) aj bM.cell (Kv.block (P.block r (by have:=m.lt;omega)):vH w3 r L) hml) walksK_t walksK_b (Below.refl _ _) (λ_=>rfl)
  _
  (λ_ _ _=>False)
  (OwnFrom.and (Own.from (holdsRow_own (w+1) (w+1) 73 9 1 (λb=>(vJ b).length) (λb=>(vJ b).map encStr) (λ_ _=>True)) _) (ownFrom_below aj aj))
  (λ_ _ _ _ _ J _ _=>J)
  ⟨⟨_,ln,World.ownsRow_nil _ _ _ _,trivial⟩,P⟩
  (λx=>{tmps:=#[.pointer (some q),.pointer (some w),.slice none 0 0,.pointer (some (w+1:Nat)),encStr x.1,.pointer (some q),.pointer (some q),.pointer (some ⟨q,4,none⟩),.map (some r),.func (.func 192) #[] #[.pointer (some ⟨w+1+1,0,none⟩)],encStr x.1,undef,undef,undef,undef,undef,undef,undef,undef,undef,undef,undef,undef,undef,undef,undef,undef],defers:=[]}) ?assign ?body ?done ?stop
 case assign=>
  intro l x W K hK;unfold qb;gi_wp2
  exact hK
 case body=>
  rintro l b x W ⟨⟨v,H,a,-⟩,A⟩ hlt;have hc:=H.cell;have c1:W.cell? w=some (.pointer (some q)):=(World.cell?_of_block (A.block w aj)).trans (y▸Boxed.new w 32 _).cell;have c4:W.cell? ⟨q,4,none⟩=some (.map (some r)):=(World.cell?_of_block (A.block q aj)).trans (S.cell d4);have hpl:(vJ b).length<=b.length:=by unfold vJ;rw[bV];exact iC _ _
  obtain⟨x,hx⟩:=x;obtain⟨p,hp,Q⟩:=aQ.1 hx;obtain⟨j,hj⟩:=gX hp;have hf:A7 L x=some p.2:=Q▸Dy m.nodup hj;generalize p.2=f at hf;have U:=(Kv.block (A.block r (by have:=m.lt;omega)):vH W r L).look X0 U0 underlying136 (AG W) (vI (Q▸hkl p hp:x.length<=maxLen));rw[hf] at U;have uF:(Instr.lookup 136 (.map (some r)) (encStr x) false).run prog W=.ok (.agg #[.int .i64 f.1,.int .i64 f.2.1,.int .i64 f.2.2.size,.int .u64 f.2.2.seq,.string ⟨f.2.2.key.toArray⟩,.string ⟨f.2.2.val.toArray⟩,.bool f.2.2.del]) W:=U;have i:Wy (L:=L) ⟨x,hx⟩ = !f.2.2.del:=by unfold Wy;dsimp only;rw[hf]
  have Z:=λwx=>c4G f.1 f.2.1 f.2.2.size f.2.2.seq ⟨f.2.2.key.toArray⟩ ⟨f.2.2.val.toArray⟩ f.2.2.del wx;have X:=λwx=>c4H f.2.2.seq ⟨f.2.2.key.toArray⟩ ⟨f.2.2.val.toArray⟩ f.2.2.del wx;clear U hf Q hp hj m Kv
  cases hd:f.2.2.del with
  | true=>
   rw[hd] at uF Z X i;have uP:=ah a;have MA:=ah i;clear a i;gi_wp2
   exact⟨KeepsFrom.refl _ _,(KeepsOthers.refl _).walks,⟨v,H,by rw[Q',MA.out];simpa using uP.out,trivial⟩,A⟩
  | false=>
   rw[hd] at uF Z X i;have MA:=ah i;clear i;gi_wp2_with (gi_at_builtin;refine wpListIn_append_own _ rfl _ _ 73 rfl (w+1) 9 i0 (.string ⟨#[]⟩) 1 16 underlying73 hi hz0 hz1 hz2 rfl dA _ _ _ rfl (a.alloc _) W 1 1 [encStr x] rfl rfl (cell_one_new _ _ _) qV aj aj (by have:=A.size;simp;omega) ?_;intro v' w1' s T _;obtain⟨g',cap',rfl⟩:=ownsRow_succ s;obtain⟨E,hv2,hr2,C,hb2⟩:=H.appended dA a (by have:=A.size;omega) (ak _) s T;have hc1:=E.cell;have hf1:=E.frozen)
   exact⟨C.from _,C.walks,⟨_,hv2,by rw[Q',MA.out];simpa using hr2,trivial⟩,A.trans hb2⟩
 case done=>
  rintro D I W hD t ⟨⟨v,H,a,-⟩,A⟩ hK;have hc:=H.cell;have R:(vJ I).mergeSort qG=(CY L).mergeSort qG:=AH (b5S m.nodup t);have G:((CY L).mergeSort qG).length=(vJ I).length:=by rw[<-R];simp
  have hyl:(vJ I).length<=L.length:=by have e:=t.length_eq;simp only[bV] at e;unfold vJ;rw[bV];exact ay (iC _ _) aj
  have Pg:Ext w W:=S.trans (A.mono aj);have ho:=a;rcases a.2 with⟨rfl,h0⟩|⟨g,cap,cur,rfl,O,Y,h1',h2,h3,h4⟩
  ·have HS:=ah (Tryz.slices_Sort_string_none none 0 W);gi_wp2_with (gi_at_call 123;refine(callsIn_wide.2 HS.out).mono ?_;rintro e w4 ⟨rfl,rfl⟩)
   refine⟨aZ,.inl ⟨_,_,rfl,run_takeDeferred hK,?_⟩⟩;refine⟨_,results_tmp rfl _ _ _,_,rfl,?_,Below.trans Pg (belowK_b (w:=w) (ak _) _ D _ _ aj hK rfl rfl)⟩;have:(CY L).mergeSort qG=[]:=dL aj;rw[this];exact World.ownsRow_nil _ _ _ _
  ·have hDg:some D≠some g:=λe=>by cases e;rw[Y] at hK;cases hK
   have hvg:some (w.heap.size+1)≠some g:=H.not_row dA a;have HS:=ah (Tryz.slices_Sort_string g 0 cap (vJ I) W (holds_of_block Y (by rw[<-tq (vJ I).length];exact h4)) (bn.1 Y).1 aj);have HR:=ah a;have HB:=ah Y;have H3:=ah h3;clear h4 a ho Y h3;gi_wp2_with (gi_at_call 123;refine(callsIn_wide.2 HS.out).mono ?_;rintro e w4 ⟨rfl,nn,os,M⟩;have hg:W.grownBy w4 (some g):=M▸grownBy_sorted _;have hc4:=(H.kept hg hvg).cell;have V:=(hg.block D (bn.1 hK).1 hDg).trans hK;have HG:=ah hg;have eZ:=ah M;clear hg M hc H)
   refine⟨aZ,.inl ⟨_,_,rfl,run_takeDeferred V,?_⟩⟩;refine⟨_,results_tmp rfl _ _ _,_,rfl,?_,Below.trans (Below.grown Pg HG.out Pg.size (λk hk=>by injection hk with hk;omega)) (belowK_b (w:=w) (ak _) _ D _ _ aj V rfl rfl)⟩;have:=ownsRow_sorted (n:=nn) (os:=os) (ss:=vJ I) G (ay (EC _) O) HB.out h1' h2 H3.out;rw[<-R] at this;refine ownsRow_putObj ?_ _ V rfl;rw[eZ.out,G,<-R];exact this
 simp
end
theorem b33:∀(n a:Nat)(l:dV),∀p∈L9 n a l,dec (l.drop p.1)=some p.2:=by
 intro n
 induction n with
 | zero=>intro a l p h;cases h
 | succ n d=>
  intro a l p b;unfold L9 at b
  cases c:dec (l.drop a) with
  | none=>grind
  | some=>
   rw[c] at b;obtain rfl|b:=bI.1 b
   exact c
   exact d _ _ p b
def Y3{l:dV}{p:Nat×Rec}(h:p∈D7 l):dec (l.drop p.1)=some p.2:=b33 _ _ _ p h
theorem c3w{l:dV}{p:Nat×Rec}(h:p∈D7 l):p.1+p.2.size<=l.length:=by have:=Ak<|Y3 h;rw[fG] at this;omega
def VW(r q:Rec):Bool:=decide (r.seq=q.seq)&&(decide (r.key=q.key)&&(decide (r.val=q.val)&&decide (r.del=q.del)))
def N8(l:Fl):List Int->List (List UInt8)->Option (List (List UInt8))×Nm
 | [],a=>(some a,[])
 | id::c,a=>match A7 l (y7 D6 id.toNat) with
  | none=>(none,y7 D6 id.toNat)
  | some b=>N8 l c (a++[b])
theorem cL{l:Fl}{id:Int}{a:fJ}{b:dV}(h:A7 l (y7 D6 id.toNat)=some b):N8 l (id::c) a=N8 l c (a++[b]):=by show(match A7 l _ with|none=>(none,y7 _ _)|some b=>N8 l c<|a++[b])=_;rw[h]
theorem EV{l:Fl}{id:Int}{a:fJ}(h:A7 l (y7 D6 id.toNat)=none):N8 l (id::c) a=(none,y7 D6 id.toNat):=by show(match A7 l _ with|none=>(none,y7 _ _)|some b=>N8 l c<|a++[b])=_;rw[h]
def G9(l:Fl):Option (Nat×List Int×List (List UInt8))×Int×Nm:=
 match A7 l y8 with
 | none=>(none,5,[])
 | some m=>match bF m with
  | none=>(none,6,[])
  | some (g,a)=>match N8 l a [] with
   | (some b,_)=>(some (g,a,b),0,[])
   | (none,n)=>(none,7,n)
section
variable{l:Fl}{m:List UInt8}{g:Nat}{ids:List Int}{bss:List (List UInt8)}{n:Nm}
theorem XB(h:A7 l y8=none):G9 l=(none,5,[]):=by unfold G9;rw[h]
theorem Qx(h:A7 l y8=some m)(a:bF m=none):G9 l=(none,6,[]):=by unfold G9;grind
theorem MH(h:A7 l y8=some m)(a:bF m=some (g,ids))(b:N8 l ids []=(some bss,n)):G9 l=(some (g,ids,bss),0,[]):=by unfold G9;grind
theorem QF(h:A7 l y8=some m)(a:bF m=some (g,ids))(b:N8 l ids []=(none,n)):G9 l=(none,7,n):=by unfold G9;grind
end
theorem b4D(l:Fl)(h:(G9 l).1≠none):(G9 l).2.2=[]:=by
 cases a:A7 l y8 with
 | none=>rw[XB a]
 | some m=>
  cases c:bF m with
  | none=>rw[Qx a c]
  | some r=>
   let⟨g,b⟩:=r
   cases d:N8 l b _ with
   | mk o=>
    cases o with
    | some=>rw[MH a c d]
    | none=>rw[QF a c d] at h;trivial
theorem b2b(h:d.Calm):∀(c:fC)(a:fJ),(∀bss n,N8 d.files c a=(some bss,n)->D.dR c d a=(bss,.ok,d))/\(∀n,N8 d.files c a=(none,n)->∃g,D.dR c d a=(g,.file 7 n,d)):=by
 intro c
 induction c with
 | nil=>
  intro a;refine⟨λbss n e=>?_,λn e=>?_⟩
  simp[N8,XJ,dO] at e;rw[<-e.1];rfl
  simp[N8] at e
 | cons id c k=>
  intro a;have f:=h.whole<|y7 D6 id.toNat
  cases i:d.file _ with
  | none=>
   rw[i] at f;rw[EV (by rw[Hl,i])];refine⟨λbss n e=>iL,λn e=>?_⟩;simp[XJ,true_and] at e;subst e
   exact⟨a,by rw[cQ f aZ];rfl⟩
  | some b=>rw[i] at f;rw[cL (by rw[Hl,i]),EA f];exact k<|a++[b]
theorem C5(h:d.Calm):d.iK.2.2=d/\d.iK.1=(G9 d.files).1/\d.iK.2.1.code=(G9 d.files).2.1/\(d.iK.2.1.code=7->d.iK.2.1.name=(G9 d.files).2.2)/\(d.iK.1=none<->d.iK.2.1.code≠0):=by
 have a:=h.bF;have c:=Hl d y8
 cases s:d.file y8 with
 | none=>
  rw[s] at a c;dsimp at a;have e:d.iK=(none,.num 5,d):=by rw[QD (by rw[a]),a]
  rw[e,XB c]
  exact⟨rfl,rfl,rfl,λh=>rfl,by simp[Er.code]⟩
 | some m=>
  rw[s] at a c;dsimp at a
  cases f:bF m with
  | none=>
   rw[f] at a;dsimp at a;have e:d.iK=(none,.num 6,d):=by rw[QD (by rw[a]),a]
   rw[e,Qx c f]
   exact⟨rfl,rfl,rfl,λh=>rfl,by simp[Er.code]⟩
  | some r=>
   let⟨g,b⟩:=r;rw[f] at a;dsimp at a;let⟨t,u⟩:=b2b h b [];have q:d.bF.1=some (g,b):=by rw[a]
   have k:d.bF.2.2=d:=by rw[a]
   cases l:N8 _ b [] with
   | mk o n=>
    cases o with
    | some j=>
     have i:=t j n l;have e:d.iK=(some (g,b,j),.ok,d):=by rw[uW q (by rw[k,i]),k,i]
     rw[e,MH c f l]
     exact⟨rfl,rfl,rfl,λh=>rfl,by simp[Er.code]⟩
    | none=>
     let⟨p,i⟩:=u n l;have e:d.iK=(none,.file 7 n,d):=by rw[Xm q fU,k,i]
     rw[e,QF c f l];exact⟨rfl,rfl,rfl,λ_=>rfl,by simp[Er.code]⟩
theorem Ap(l:dV){n b:Nat}(h:a+b<=n):((l.take n).drop a).take b=(l.drop a).take b:=by rw[fZ,kG,jS<|aj]
theorem tt{l:dV}{r:Rec}(h:dec l=some r):dec (l.take r.size)=some r:=by
 have j:=Ak h;unfold dec at h⊢;split at h
 rename_i a;let⟨n,b⟩:∃n,16+F5 l+H9 l=n:=⟨_,rfl⟩;injection h with h;have f:r.size=n:=by rw[<-h,<-b]
 rw[f];rw[f] at j;have d:F5 (l.take n)=F5 l:=by unfold F5;rw[Ap l aj]
 have e:H9 (l.take n)=H9 l:=by unfold H9;rw[Ap l aj]
 have g:L6 (l.take n)=L6 l:=by unfold L6;rw[Ap l aj]
 have k:((l.take n).take n).drop 4=(l.take n).drop 4:=by rw[kG,Nat.min_self]
 have i:(l.take n).take 4=l.take 4:=by rw[kG,jS<|aj]
 rw[if_pos (by unfold good at a⊢;simp_all),d,e,g,Ap l<|aj,Ap l<|aj,Ap l<|aj,<-h]
 cases h
theorem b7Y{l:Fl}:∀(c:fC)(a bss:fJ)(n:Nm),N8 l c a=(some bss,n)->bss.length=a.length+c.length/\(∀i,i<a.length->bss.getD i []=a.getD i [])/\∀i,i<c.length->A7 l (y7 D6 (c.getD i 0).toNat)=some (bss.getD (a.length+i) []):=by
 intro c
 induction c with
 | nil=>intro a bss n h;simp[N8] at h;simp_all
 | cons id c m=>
  intro a bss n h
  cases g:A7 l _ with
  | none=>rw[EV g] at h;simp at h
  | some=>
   rw[cL g] at h;let⟨k,f,j⟩:=m _ _ _ h;rw[aC,jZ] at k f j;refine⟨by rw[k,dK];omega,λi e=>?_,λi e=>?_⟩
   rw[f i aj,aT,bP e,aT]
   cases i with
   | zero=>simp_all
   | succ i=>have:=j i fU;rw[show a.length+(i+1)=a.length+1+i by omega];trivial
theorem Z8{g:Nat}{a:fC}{bss:fJ}(h:(G9 d.files).1=some (g,a,bss)):bss.length=a.length/\∀i,i<a.length->d.file (y7 D6 (a.getD i 0).toNat)=some (bss.getD i []):=by
 cases c:A7 _ y8 with
 | none=>rw[XB c] at h;cases h
 | some m=>
  cases e:bF m with
  | none=>rw[Qx c e] at h;cases h
  | some r=>
   let⟨q,k⟩:=r
   cases f:N8 _ k [] with
   | mk o=>
    cases o with
    | none=>rw[QF c e f] at h;cases h
    | some=>rw[MH c e f] at h;obtain⟨-,rfl,rfl⟩:=h;obtain⟨j,-,l⟩:=b7Y _ _ _ _ f;refine⟨fU,λi p=>?_⟩;have:=l i p;rw[Hl] at this;grind
theorem b7Z(r:Rec):VW r r=true:=by simp[VW]
def valOf(m:List (Nm×Nm))(k:Nm):Nm×Bool:=match A7 m k with|some v=>(v,true)|none=>([],false)
theorem vo{bss:fJ}{n:Nat}(g:bss.length=n)(k:Nm):A7 (mQ (F6 bss)) k=(A7 (O9 bss n) k).bind λf=>if f.2.2.del then none else some f.2.2.val:=by
 cases e:A7 (O9 bss n) k with
 | none=>refine cx λp d i=>?_;obtain⟨f,c,-⟩:=Xa g p d;simp_all
 | some f=>
  show _=if f.2.2.del=true then none else some _
  cases m:f.2.2.del with
  | true=>refine cx λp d i=>?_;obtain⟨s,c,o,-⟩:=Xa g p d;grind
  | false=>let⟨j,q⟩:=gX<|tn g e m;exact Dy ((eu.2<|MP _).imp λh e=>fU) q
theorem b7X(h:o7 w F a d)(hc:d.Calm):Calls prog 93 #[l9 a] w λe w'=>e=.returned (.bool false)/\w'=w:=by
 obtain⟨m1,m2,mv,gs,dv,h⟩:=h;have c4:=h.box.cell 4;have c5:=h.box.cell 5;rw[hc.1] at c4;rw[hc.2] at c5;clear h hc;unfold l9;go_enter func93,ntmps93
 go_wp2;go_ret;exact⟨rfl,rfl⟩
theorem c1p{name:Nm}(h:o7 w F a d)(hc:d.Calm)(hn:name.length<=maxLen)(hx:A7 d.now name=some x):Calls prog 124 #[l9 a,bJ name] w λe w'=>e=.returned (.tuple #[l9 x,.nilIface])/\w'=w:=by
 have IG:=b7X h hc;obtain⟨m1,m2,mv,gs,dv,h⟩:=h;have c0:=h.box.cell 0;have hlk:=h.now.look X0 U0 underlying171 (vm w) (vI hn);rw[hx] at hlk;simp only[eP,aG] at hlk;clear h hc hx;have HF:=ah IG;clear IG;unfold bJ l9 at *;go_enter func124,ntmps124
 go_wp2_with fail
 refine HF.out.mono ?_;rintro e w1 ⟨rfl,rfl⟩;go_wp2;go_ret2
 exact⟨rfl,rfl⟩
theorem b5Q{name:Nm}{L:dV}{m:Nat}(h:o7 w F a d)(hc:d.Calm)(hn:name.length<=maxLen)(hf:d.file name=some L)(him:i+m<=L.length)(hL:L.length<=140737488355328):
 Calls prog 68 #[l9 a,bJ name,.int .i64 i,.int .i64 m] w λe w'=>∃u,e=.returned (.tuple #[u,.nilIface])/\Bytes w' u ((L.drop i).take m)/\Ext w w':=by
 obtain⟨x,hx,hxL⟩:=bC.1 (show(A7 d.now name).map (λx=>(d.node x).data)=some L from hf);have hfind:=c1p h hc hn hx;have hxm:x∈d.ids:=by have e:=hc.find name;rw[hx] at e;dsimp only at e;have:=D.lV d name x (by rw[e]) (by rw[e];obtain⟨_,_,_,_,_,h⟩:=h;exact h.wf);rwa [e] at this
 obtain⟨m1,m2,mv,gs,dv,hr⟩:=h;obtain⟨hb,ho⟩:=hr.file x hxm;rw[hxL] at ho;obtain⟨da,dc,hdv⟩:=ownsRow_form ho;rw[hdv] at hb ho;have hbb:Bytes w (.slice da L.length dc) L:=OwnB.bytes ho;have hdc:L.length<=dc/\dc<=9223372036854775807:=by obtain⟨a',c',e,h1,h2,_⟩:=hbb;injection e with e1 e2 e3;subst e3;exact⟨h1,h2.1⟩
 have c0:=hb.cell 0;have hp:(L.take (i+m)).drop i=(L.drop i).take m:=by rw[fZ];congr 1;omega
 have hcl:=clone_any _ _ w (hbb.sliced i (i+m) aj him) YV YV;have BU:∀u,u=.slice (if dc=i then da else da.map (·.add i)) m (dc - i)->Calls prog 88 #[u] w (tD ((L.drop i).take m) w):=by rintro _ rfl;have:=hcl;rwa [show i+m - i=m by omega,hp] at this
 have x1:min (i:Int) (L.length:Int)=i:=aj
 have x2:min (m:Int) ((L.length:Int) - i)=m:=aj
 have HF:=ah hfind;have N6:=ah BU;clear hfind BU hcl hp hr ho hb hbb hxm hx hf hc hxL;unfold l9 bJ at *;go_enter func68,ntmps68
 go_wp2_with fail
 refine HF.out.mono ?_;rintro e w1 ⟨rfl,rfl⟩;go_wp2_with fail
 all_goals
  refine(N6.out _ (by first|(rename_i h;rw[if_pos h,show dc - i=0 by omega])|(rename_i h;rw[if_neg h]))).mono ?_;rintro e w2 ⟨u,rfl,hu,hE,-⟩;go_wp2;go_ret2
  exact⟨u,rfl,OwnB.bytes hu,hE⟩
end Go.Proofs.YtgpbhjjajpbeeaaGreatDoor
