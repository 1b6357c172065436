/- A part of what the last file proves. -/
import Derived.Test.YtgpbhjjajpbeeaaGreatDoorO12
import Derived.Shelf.Strings.Builder1
import Derived.Shelf.Strings.Builder2
import Derived.Shelf.Strings.Trim
import Derived.Shelf.Small.Utf8
import Derived.Shelf.Small.Bits
import Derived.Shelf.Small.Strs
import Derived.Shelf.Small.Wraps
import Derived.Shelf.Strings.BuilderF
import Derived.Shelf.Strings.BuilderK
import Derived.Shelf.Strings.Builder2Cap
import Derived.Shelf.Strconv.Itoa0
import Derived.Shelf.Strconv.Itoa1
import Derived.Shelf.LaysM
import Derived.Shelf.Strconv.Itoa2
import Derived.Shelf.Strconv.Itoa3
import Derived.Shelf.Strings.Search1
import Derived.Shelf.Sort.Plain
import Derived.Shelf.Strings.Prefix
import Derived.Shelf.Unicode.Decode
import Derived.Shelf.Strings.Runes
import Derived.Shelf.Strings.AsciiSet
import Derived.Shelf.Bits.Mul64
import Derived.Shelf.Strings.Repeat
import Derived.Shelf.Unicode.DecodeSlow
import Derived.Shelf.Unicode.DecodeAny
import Derived.Shelf.Unicode.DecodeLast
import Derived.Shelf.Strings.BuilderCap
import Derived.Shelf.Slices.Turned
import Derived.Shelf.Slices.In.SortNone
import Derived.Sort.OwnSorted
import Derived.BigRegion
set_option linter.all false
set_option maxRecDepth 100000
set_option maxHeartbeats 2000000
open Go.Proofs.Tryz
namespace Go.Proofs.YtgpbhjjajpbeeaaGreatDoor
section
open Go.RowKit Go.Lib Go.Maps Dk
section look
variable{α β:Type}[DecidableEq α]
theorem Uw(l:List (α×β))(x y:α):D7 (qg l x) y=if y=x then none else D7 l y:=by
 unfold D7 qg
 induction l with
 | nil=>simp
 | cons p l ih=>
  by_cases h:p.1=x
  ·rw[VH (by simpa using h),ih];split
   ·rfl
   ·rename_i hy;rw[iM (by simp;exactλe=>hy (e.symm.trans h))]
  ·rw[VG (by simpa using h)];by_cases hp:p.1=y
   ·rw[oq (by simpa using hp),oq (by simpa using hp),if_neg (λe=>h (hp.trans e))]
   ·rw[iM (by simpa using hp),iM (by simpa using hp),ih]
theorem Dc(p:α×β)(l:List (α×β))(y:α):D7 (p::l) y=if p.1=y then some p.2 else D7 l y:=by
 unfold D7;by_cases h:p.1=y
 ·rw[oq (by simpa using h),if_pos h];rfl
 ·rw[iM (by simpa using h),if_neg h]
theorem K6(y:α):D7 ([]:List (α×β)) y=none:=rfl
theorem cX(l k:List (α×β))(y:α):D7 (l++k) y=(D7 l y).or (D7 k y):=by
 induction l with
 | nil=>rfl
 | cons p l ih=>
  rw[List.cons_append,Dc,Dc,ih];split<;>rfl
theorem J9{l:List (α×β)}{x:α}:D7 l x=none<->x∉l.map (·.1):=by
 induction l with
 | nil=>simp[K6]
 | cons p l ih=>
  rw[Dc,aB,aY];split
  ·rename_i h;simp[h]
  ·rename_i h;rw[ih];simp[bP h]
theorem cg(l:List (α×β))(x:α)(y:β)(z:α):D7 (kU l x y) z=if z=x then some y else D7 l z:=by
 unfold kU;split
 ·rename_i hx
  induction l with
  | nil=>simp at hx
  | cons p l ih=>
   rw[aB,Dc,Dc];by_cases hp:p.1=x
   ·rw[if_pos hp];by_cases hz:z=x
    ·subst hz;simp
    ·rw[if_neg (λe=>hz e.symm),if_neg hz,if_neg (λe=>hz (e.symm.trans hp))];by_cases hx':x∈l.map (·.1)
     ·rw[ih hx',if_neg hz]
     ·have:(l.map λp=>if p.1=x then(x,y) else p)=l:=by
       conv=>rhs;rw[<-List.map_id l]
       apply rY;intro q hq;have:q.1≠x:=λe=>hx' (e▸gu hq);simp[this]
      rw[this]
   ·rw[if_neg hp];have hx':x∈l.map (·.1):=by
     rw[aB,aY] at hx;rcases hx with h|h
     ·exact absurd h.symm hp
     ·exact h
    rw[ih hx'];by_cases hz:z=x
    ·subst hz;rw[if_neg hp];simp
    ·simp[hz]
 ·rename_i hx;rw[cX,Dc,K6];by_cases hz:z=x
  ·subst hz;rw[if_pos rfl,if_pos rfl,J9.2 hx];rfl
  ·rw[if_neg (bP hz),if_neg hz];simp
def ED(l k:List (α×β)):Prop:=∀x,D7 l x=D7 k x
theorem ED.keys{l k:List (α×β)}(h:ED l k)(hl:(l.map (·.1)).Nodup)(hk:(k.map (·.1)).Nodup):(l.map (·.1)).Perm (k.map (·.1)):=by
 refine(jl hl hk).2 λx=>?_;have e:=h x;constructor
 ·intro hx;exact dB λhk=>(J9.1 (e.trans (J9.2 hk))) hx
 ·intro hx;exact dB λhl=>(J9.1 (e.symm.trans (J9.2 hl))) hx
theorem am{l:List (α×β)}(hn:(l.map (·.1)).Nodup){p:α×β}(hp:p∈l):D7 l p.1=some p.2:=by
 obtain⟨j,hj⟩:=gV.1 hp;exact Af hn hj
end look
namespace Dk
theorem ae{l k:List (Nm×Nat)}(ms:List Mv)(h:ED l k):ED (D6 l ms) (D6 k ms):=by
 induction ms generalizing l k with
 | nil=>exact h
 | cons m ms ih=>
  refine ih (l:=match m.2 with|none=>qg l m.1|some f=>kU l m.1 f) (k:=match m.2 with|none=>qg k m.1|some f=>kU k m.1 f) ?_;intro x
  cases m.2 with
  | none=>show D7 (qg l m.1) x=D7 (qg k m.1) x;rw[Uw,Uw,h x]
  | some f=>show D7 (kU l m.1 f) x=D7 (kU k m.1 f) x;rw[cg,cg,h x]
theorem Vx{l:List (Nm×Nat)}(ms:List Mv)(h:(l.map (·.1)).Nodup):((D6 l ms).map (·.1)).Nodup:=by
 induction ms generalizing l with
 | nil=>exact h
 | cons m ms ih=>
  refine ih (l:=match m.2 with|none=>qg l m.1|some f=>kU l m.1 f) ?_
  cases m.2 with
  | none=>exact b43 h _
  | some f=>exact UK h _ _
theorem a_{l:List (Nm×Nat)}(ms:List (List Mv))(h:(l.map (·.1)).Nodup):((ms.foldl D6 l).map (·.1)).Nodup:=by
 induction ms generalizing l with
 | nil=>exact h
 | cons m ms ih=>exact ih (Vx m h)
def D.file(d:D)(n:Nm):Option (List UInt8):=(D7 d.now n).map λx=>(d.node x).data
abbrev Fl:=List (Nm×List UInt8)
def D.files(d:D):Fl:=d.list.map λn=>(n,(d.file n).getD [])
theorem Kr(d:D)(n:Nm):n∈d.list<->n∈d.now.map (·.1):=List.mem_mergeSort
theorem Qf{d:D}(h:(d.now.map (·.1)).Nodup):d.list.Nodup:=((rX _ _).nodup_iff).2 h
theorem b3h(d:D):d.files.map (·.1)=d.list:=by unfold D.files;rw[jQ];exact List.map_id _
theorem Ux(d:D)(n:Nm):D7 d.files n=d.file n:=by
 cases e:d.file n with
 | none=>
  rw[J9,b3h,Kr,<-J9];unfold D.file at e
  exact Option.map_eq_none_iff.1 e
 | some b=>
  have hm:n∈d.list:=by
   rw[Kr];exact dB λh=>by
    unfold D.file at e;rw[J9.2 h] at e;cases e
  unfold D.files;generalize d.list=l at hm
  induction l with
  | nil=>cases hm
  | cons m l ih=>
   rw[aB,Dc];by_cases h:m=n
   ·rw[if_pos h,h,e];rfl
   ·rw[if_neg h];refine ih ?_;rcases aY.1 hm with h'|h'
    ·exact absurd h'.symm h
    ·exact h'
def D.Calm(d:D):Prop:=d.wait=0/\d.bad=0
theorem D.Calm.fails{d:D}(h:d.Calm):d.fails=(false,d):=by
 unfold D.fails;rw[if_neg (by have:=h.1;omega),if_neg (by have:=h.2;omega)]
theorem D.Calm.find{d:D}(h:d.Calm)(n:Nm):d.find n=match D7 d.now n with|none=>(none,.file 11 n,d)|some x=>(some x,.ok,d):=by
 unfold D.find;rw[h.fails];rfl
theorem D.Calm.size{d:D}(h:d.Calm)(n:Nm):d.size n=match d.file n with|none=>(0,.file 11 n,d)|some b=>(b.length,.ok,d):=by
 unfold D.size D.file;rw[h.find];cases D7 d.now n<;>rfl
theorem C5(l:List UInt8):part l 0 l.length=l:=by unfold part;simp
theorem D.Calm.iE{d:D}(h:d.Calm)(n:Nm)(i k:Int):d.iE n i k=match d.file n with|none=>([],.file 11 n,d)|some b=>(part b i k,.ok,d):=by
 unfold D.iE D.file;rw[h.find];cases D7 d.now n<;>rfl
theorem D.Calm.remove{d:D}(h:d.Calm){n:Nm}(hn:n∈d.now.map (·.1)):d.remove n=(.ok,d.mv [(n,none)]):=by
 unfold D.remove;rw[h.find]
 cases e:D7 d.now n with
 | none=>exact absurd hn (J9.1 e)
 | some x=>rfl
theorem D.Calm.mv{d:D}(h:d.Calm)(l:List Mv):(d.mv l).Calm:=h
theorem D.Calm.gK{d:D}(h:d.Calm):d.gK=(.ok,{d with safe:=d.moves.foldl D6 d.safe,moves:=[]}):=by
 unfold D.gK;rw[h.fails];rfl
def I5:Nm:=[109,97,110,105,102,101,115,116]
def I8:Nm:=[100,97,116,97,45]
def GY:Nm:=[104,105,110,116,45]
def digit(k:Nat):UInt8:=UInt8.ofNat (48+k%10)
def F6(kind:Nm)(k:Nat):Nm:=kind++[digit (k/100000),digit (k/10000),digit (k/1000),digit (k/100),digit (k/10),digit k]
def I2(b:UInt8):Bool:=decide (48<=b.toNat/\b.toNat<=57)
def AD(kind n:Nm):Bool:=decide (n.length=kind.length+6)&&(decide (n.take kind.length=kind)&&(n.drop kind.length).all I2)
def V'(ids:List Int)(n:Nm):Bool:=ids.any λk=>decide (F6 I8 k.toNat=n)
def wG(ids:List Int)(n:Nm):Bool:=decide (n=I5)||(V' ids n||AD GY n)
def D.whole(d:D)(n:Nm):List UInt8×Er×D:=
 match d.size n with
 | (k,.ok,d1)=>d1.iE n 0 k
 | (_,e,d1)=>([],e,d1)
def D.aV(d:D):Option (Nat×List Int)×Er×D:=
 match d.whole I5 with
 | (b,.ok,d1)=>(match Go.Proofs.YtgpbhjjajpbeeaaGreatDoor.aV b with|some r=>(some r,.ok,d1)|none=>(none,.num 6,d1))
 | (_,e,d1)=>(none,if e.code=11 then .num 5 else e,d1)
def D.removeAll(d:D):List Nm->Er×D
 | []=>(.ok,d)
 | n::l=>match d.remove n with|(.ok,d1)=>d1.removeAll l|(e,d1)=>(e,d1)
def D.sweep(d:D)(ids:List Int):Er×D:=
 match d.removeAll (d.list.filter λn=>!wG ids n) with
 | (.ok,d1)=>d1.gK
 | (e,d1)=>(e,d1)
def D.clean(d:D):Er×D:=
 match d.aV with
 | (some r,_,d1)=>d1.sweep r.2
 | (none,e,d1)=>(e,d1)
theorem D.Calm.whole{d:D}(h:d.Calm)(n:Nm):d.whole n=match d.file n with|none=>([],.file 11 n,d)|some b=>(b,.ok,d):=by
 unfold D.whole;rw[h.size]
 cases e:d.file n with
 | none=>rfl
 | some b=>simp only[h.iE,e,C5]
theorem D.Calm.aV{d:D}(h:d.Calm):d.aV=match d.file I5 with|none=>(none,.num 5,d)|some b=>(match Go.Proofs.YtgpbhjjajpbeeaaGreatDoor.aV b with|some r=>(some r,.ok,d)|none=>(none,.num 6,d)):=by
 unfold D.aV;rw[h.whole]
 cases e:d.file I5 with
 | none=>rfl
 | some b=>rfl
theorem D.Calm.removeAll{d:D}(h:d.Calm)(l:List Nm)(hn:l.Nodup)(hl:∀n∈l,n∈d.now.map (·.1)):
 d.removeAll l=(.ok,{d with now:=D6 d.now (l.map λn=>(n,none)),moves:=d.moves++l.map λn=>[(n,none)]}):=by
 induction l generalizing d with
 | nil=>simp[D.removeAll,D6]
 | cons n l ih=>
  rw[Di] at hn;have hm:=hl n (by simp);unfold D.removeAll;rw[h.remove hm];show(d.mv [(n,none)]).removeAll l=_;rw[ih (h.mv _) hn.2 λm hm'=>?_]
  ·simp[D.mv,D6]
  ·have h1:=hl m (by simp[hm']);have hne:m≠n:=λe=>hn.1 (e▸hm');show m∈(D6 d.now [(n,none)]).map (·.1);refine dB λhc=>?_;have e:D7 (D6 d.now [(n,none)]) m=none:=J9.2 hc;have e2:D7 (qg d.now n) m=none:=e;rw[Uw,if_neg hne,J9] at e2;exact e2 h1
theorem b7v(l:List (Nm×Nat))(ns:List Nm)(n:Nm):D7 (D6 l (ns.map λn=>(n,none))) n=if n∈ns then none else D7 l n:=by
 induction ns generalizing l with
 | nil=>simp[D6]
 | cons m ns ih=>
  show D7 (D6 (qg l m) (ns.map λn=>(n,none))) n=_;rw[ih,Uw];by_cases h1:n∈ns
  ·simp[h1]
  ·by_cases h2:n=m
   ·simp[h2]
   ·simp[h1,h2]
theorem b3j(l:List (Nm×Nat))(ns:List Nm):(ns.map λn=>[(n,(none:Option Nat))]).foldl D6 l=D6 l (ns.map λn=>(n,none)):=by
 induction ns generalizing l with
 | nil=>rfl
 | cons m ns ih=>
  show List.foldl D6 (D6 l [(m,none)]) _=_;rw[ih];rfl
structure D.Safe(d:D):Prop where
 calm:d.Calm
 moves:d.moves=[]
 same:ED d.safe d.now
 nodup:(d.now.map (·.1)).Nodup
 Fj:(d.safe.map (·.1)).Nodup
 nodes:∀p∈d.safe,(d.node p.2).safe=(d.node p.2).data.length
theorem D.Safe.sweep{d:D}(h:d.Safe)(ids:List Int):
 ∃e:D,d.sweep ids=(.ok,e)/\e.Safe/\(∀n,e.file n=if wG ids n=true then d.file n else none)/\e.ids=d.ids/\e.room=d.room/\e.node=d.node:=by
 obtain⟨l,hl⟩:∃l,d.list.filter (λn=>!wG ids n)=l:=⟨_,rfl⟩;have hmem:∀n,n∈l<->n∈d.now.map (·.1)/\wG ids n=false:=by
  intro n;rw[<-hl,iR,Kr];simp
 have hnd:l.Nodup:=hl▸(Qf h.nodup).filter _;have hr:=h.calm.removeAll l hnd λn hn=>((hmem n).1 hn).1;have hE:d.sweep ids=(.ok,{d with now:=D6 d.now (l.map λn=>(n,none)),safe:=D6 d.safe (l.map λn=>(n,none)),moves:=[]}):=by
  unfold D.sweep;rw[hl,hr];show D.gK _=_;rw[D.Calm.gK (d:={d with now:=D6 d.now (l.map λn=>(n,none)),moves:=d.moves++l.map λn=>[(n,none)]}) h.calm];simp[h.moves,b3j]
 refine⟨_,hE,⟨h.calm,rfl,ae _ h.same,Vx _ h.nodup,Vx _ h.Fj,?_⟩,?_,rfl,rfl,rfl⟩
 ·intro p hp;refine h.nodes p ?_;rcases QS hp with hp|⟨x,hx,e⟩
  ·exact hp
  ·obtain⟨n,_,rfl⟩:=bg.1 hx;cases e
 ·intro n;show(D7 (D6 d.now (l.map λn=>(n,none))) n).map _=_;rw[b7v];by_cases hk:wG ids n=true
  ·rw[if_neg (λhn=>by rw[((hmem n).1 hn).2] at hk;cases hk),if_pos hk];rfl
  ·rw[if_neg hk];by_cases hn:n∈l
   ·rw[if_pos hn];rfl
   ·rw[if_neg hn];have:n∉d.now.map (·.1):=λhc=>hn ((hmem n).2 ⟨hc,by simpa using hk⟩);rw[J9.2 this];rfl
end Dk
end
section
open Go.RowKit Go.Lib Go.Maps Dk Pl
theorem MU(d:D)(n:Nm):(d.size n).2.2.ids=d.ids/\(d.size n).2.2.node=d.node/\(d.size n).2.2.now=d.now/\((d.size n).2.1≠.ok->(d.size n).1=0/\∃k,(d.size n).2.1=.file k n)/\
 ((d.size n).2.1=.ok->∃x,(x∈d.now.map Prod.snd)/\(d.size n).1=((d.node x).data.length:Nat)):=by
 have hm:=UN d n
 cases hx:(d.find n).1 with
 | none=>
  obtain⟨k,hk⟩:=ZR d n hx;rw[Uh hx]
  exact⟨hm.2.2.1,hm.2.2.2.1,hm.2.1,λ_=>⟨rfl,k,hk⟩,λh=>by dsimp only at h;rw[hk] at h;cases h⟩
 | some x=>
  rw[TT hx];refine⟨hm.2.2.1,hm.2.2.2.1,hm.2.1,λh=>absurd rfl h,λ_=>⟨x,?_,by rw[hm.2.2.2.1]⟩⟩;unfold D.find at hx;split at hx
  ·cases hx
  ·split at hx
   ·cases hx
   ·rename_i y hy;injection hx with hx;subst hx;exact bg.2 ⟨_,Ad hy,rfl⟩
theorem LI(F:Nat->Prop)(a:Nat)(d:D)(name:Nm)(w:World)(h:A7 w F a d)(hn:name.length<=maxLen)(hds:∀x∈d.ids,(d.node x).data.length<=35184372088832):
 Calls prog 55 #[o7 a,bC name] w (Tz F a (d.whole name) w):=by
 have hsize:=size_any F a d name w h hn;have hsf:=MU d name;have hwf:=h.wf;obtain⟨⟨k,er,d1⟩,hr⟩:∃r,d.size name=r:=⟨_,rfl⟩;have hw:(er=.ok->d.whole name=d1.iE name 0 k)/\(er≠.ok->d.whole name=([],er,d1)):=by
  unfold D.whole;rw[hr];cases er
  ·exact⟨λ_=>rfl,λh=>absurd rfl h⟩
  ·exact⟨λh=>(by cases h),λ_=>rfl⟩
  ·exact⟨λh=>(by cases h),λ_=>rfl⟩
 rw[hr] at hsize hsf;dsimp only at hsf;have HS:=ah hsize;have HW:=ah hw;clear hsize hw hr h;unfold o7 bC at *;go_enter func55,ntmps55
 go_wp2_with fail
 refine HS.out.mono ?_;rintro e w1 ⟨v,rfl,hv,hD,hC⟩
 cases er with
 | ok=>
  obtain rfl:v=.nilIface:=hv.get;obtain⟨x,hx,hk⟩:=hsf.2.2.2.2 rfl;obtain⟨p,hp,rfl⟩:=bg.1 hx;have hkl:=hds _ (hwf.now p hp);have hrd:=RB F a d1 name 0 k w1 hD hn (by omega) (by omega) (λx hx=>by rw[hsf.2.1];rw[hsf.1] at hx;have:=hds x hx;omega);have HR:=ah hrd;have HC:=ah hC;clear hrd hC hD hv hsf hk hx hp;unfold o7 bC at HR;go_wp2_with fail
  refine HR.out.mono ?_;rintro e w2 ⟨u,v2,rfl,hB,hv2,hD2,hC2,hfl⟩;have hfin:Tz F a (d.whole name) w (.returned (.tuple #[u,v2])) w2:=by
   rw[HW.out.1 (by trivial)];exact⟨u,v2,rfl,O4 hB HC.out.size,hv2,hD2,HC.out.trans hC2,hfl⟩
  have HF:=ah hfin;clear hfin hB hv2 hD2 hC2;go_wp2;go_ret2
  exact HF.out
 | num m=>
  obtain⟨_,j,hj⟩:=hsf.2.2.2.1 (by simp)
  cases hj
 | file m nm=>
  obtain⟨b,hvb,-⟩:=hv.get;subst hvb;have hfin:Tz F a (d.whole name) w (.returned (.tuple #[.slice none 0 0,.iface 132 (.pointer (some ⟨b,0,none⟩))])) w1:=by
   rw[HW.out.2 (by simp)];exact⟨_,_,rfl,⟨rfl,Or.inl ⟨rfl,rfl⟩⟩,hv,hD,hC,ug.nil _ _ _⟩
  have HF:=ah hfin;clear hfin hv hD hC hsf;go_wp2;go_ret2
  exact HF.out
theorem EB{w:World}{b:Nat}{x0 x1:Value}(h:o8 w b 125 #[x0,x1])(g:Int)(v:Value):
 w.frozen? ⟨b,0,none⟩=false/\(w.setCell ⟨b,0,none⟩ (.int .u64 g)).cell? ⟨b,1,none⟩=some x1/\(w.setCell ⟨b,0,none⟩ (.int .u64 g)).frozen? ⟨b,1,none⟩=false/\
 ((w.setCell ⟨b,0,none⟩ (.int .u64 g)).setCell ⟨b,1,none⟩ v).cell? ⟨b,0,none⟩=some (.int .u64 g)/\((w.setCell ⟨b,0,none⟩ (.int .u64 g)).setCell ⟨b,1,none⟩ v).cell? ⟨b,1,none⟩=some v:=by
 have h1:=h.set 0 (.int .u64 g);have h2:=h1.set 1 v;refine⟨h.free 0,?_,h1.free 1,?_,?_⟩
 ·rw[h1.cell];simp
 ·rw[h2.cell];simp
 ·rw[h2.cell];simp
def An(F:Nat->Prop)(a:Nat)(r:Option (Nat×List Int)×Er×D)(w:World)(e:Ending)(w':World):Prop:=
 ∃g v y,e=.returned (.tuple #[.agg #[.int .u64 g,v],y])/\A7 w' F a r.2.2/\fA F F w w'/\
  ((r.1=none/\g=0/\v=.slice none 0 0/\r.2.1≠.ok/\Held w' F (λW=>ErrAt W y r.2.1))\/(∃gen ids,r.1=some (gen,ids)/\r.2.1=.ok/\g=(gen:Int)/\y=.nilIface/\iQ w' w.heap.size v ids))
theorem LA{w:World}{F:Nat->Prop}{v:Value}{m:Int}{nm:Nm}(h:Held w F (λW=>ErrAt W v (.file m nm))):∃b,v=.iface 132 (.pointer (some ⟨b,0,none⟩))/\o8 w b 134 #[bC nm,.int .i64 m]/\¬F b:=by
 obtain⟨b,rfl,hb⟩:=h.get;refine⟨b,rfl,hb,λhF=>?_⟩;obtain⟨S,h1,h2⟩:=h;obtain⟨b',e,hb'⟩:=h2 {w with heap:=w.heap.setIfInBounds b (.map #[] 0)} λk hk=>by
  have hne:b≠k:=λe=>(h1 k hk).2 (e▸hF);show(w.heap.setIfInBounds b _)[k]?=_;rw[aK hne]
 injection e with _ e;injection e with e;injection e with e;injection e with e;subst e;have h3:(w.heap.setIfInBounds b (.map #[] 0))[b]?=some (.cells #[bC nm,.int .i64 m] 134):=hb';rw[bT hb.lt] at h3;cases h3
theorem EA(d:D)(n:Nm):(d.whole n).2.1=.ok\/∃k,(d.whole n).2.1=.file k n:=by
 have hs:=MU d n;unfold D.whole;obtain⟨⟨k,er,d1⟩,hr⟩:∃r,d.size n=r:=⟨_,rfl⟩;rw[hr] at hs⊢;dsimp only at hs⊢
 cases er with
 | ok=>
  dsimp only
  cases hx:(d1.find n).1 with
  | none=>
   obtain⟨j,hj⟩:=ZR d1 n hx;rw[UM hx]
   exact .inr ⟨j,hj⟩
  | some x=>rw[Uu hx];exact .inl rfl
 | num m=>
  obtain⟨_,j,hj⟩:=hs.2.2.2.1 (by simp)
  cases hj
 | file m nm=>
  obtain⟨_,j,hj⟩:=hs.2.2.2.1 (by simp);injection hj with h1 h2;subst h2;exact .inr ⟨m,rfl⟩
theorem b2n(F:Nat->Prop)(a:Nat)(d:D)(w:World)(h:A7 w F a d)(hds:∀x∈d.ids,(d.node x).data.length<=35184372088832):
 Calls prog 54 #[o7 a] w (An F a d.aV w):=by
 have hx0:o8 (w.alloc (.cells #[.int .u64 0,.slice none 0 0] 125)) w.heap.size 125 #[.int .u64 0,.slice none 0 0]:=o8.new _ _ rfl;have hE0:Ext w (w.alloc (.cells #[.int .u64 0,.slice none 0 0] 125)):=(Ext.refl w).new _;have hwh:=LI F a d I5 _ (h.ext hE0) (by unfold I5 maxLen;simp) hds;have hlow:=h.low;obtain⟨⟨bs,er,d1⟩,hr⟩:∃r,d.whole I5=r:=⟨_,rfl⟩;have hrm:(er=.ok->d.aV=match aV bs with|some r=>(some r,.ok,d1)|none=>(none,.num 6,d1))/\(er≠.ok->d.aV=(none,if er.code=11 then .num 5 else er,d1)):=by
  unfold D.aV;rw[hr];cases er
  ·exact⟨λ_=>rfl,λh=>absurd rfl h⟩
  ·exact⟨λh=>(by cases h),λ_=>rfl⟩
  ·exact⟨λh=>(by cases h),λ_=>rfl⟩
 have hcl:=EA d I5;rw[hr] at hcl;rw[hr] at hwh;have HW:=ah hwh;have HR:=ah hrm;have HX:=ah hx0;have HE:=ah hE0;have HL:=ah hlow;clear hwh hrm hr hx0 hE0 hlow h;unfold o7 bC at *;unfold I5 at HW;go_enter func54,ntmps54
 go_wp2_with fail
 refine HW.out.mono ?_;rintro e w1 ⟨u,v,rfl,hB,hv,hD,hC,-⟩;have hxb:=HX.out;have hx1:o8 w1 w.heap.size 125 #[.int .u64 0,.slice none 0 0]:=(hC.block _ hxb.lt (λhF=>by have:=HL.out _ hF;omega)).trans hxb;have sJ:=(fA.ext (F:=F) HE.out).trans hC;have his:=tG er v 11 w1 hv.get (by omega);have hsz1:w.heap.size<=w1.heap.size:=sJ.size;have hby:=hB.bytes;have c0:=(hx1.cell 0).trans (show _=some (Value.int .u64 0) from rfl);have c1:=(hx1.cell 1).trans (show _=some (Value.slice none 0 0) from rfl);have f0:=hx1.free 0;have f1:=hx1.free 1;have HIS:=ah his;have VI:=ah hx1;have HC:=ah sJ;have HV:=ah hv;have HD:=ah hD;have i_:=ah hby;clear his hx1 sJ hC hD hby HX HW;unfold Z5 at HIS
 cases er with
 | ok=>
  obtain rfl:v=.nilIface:=HV.out.get;have hrm:=b2I u bs w1 i_.out;have Ik:=ah hrm;clear hrm hv hB;go_wp2_with fail
  refine HIS.out.mono ?_;rintro e w2 ⟨rfl,rfl⟩;go_wp2_with fail
  refine Ik.out.mono ?_;rintro e w3 ⟨g,v3,y,rfl,jX,hcase⟩;have hx3:o8 w3 w.heap.size 125 #[.int .u64 0,.slice none 0 0]:=(jX.block _ VI.out.lt).trans VI.out;have d0:=(hx3.cell 0).trans (show _=some (Value.int .u64 0) from rfl);have d1':=(hx3.cell 1).trans (show _=some (Value.slice none 0 0) from rfl);obtain⟨z1,z2,z3,z4,z5⟩:=EB hx3 g v3;have hD3:=HD.out.ext jX;have mD:=HC.out.trans (fA.ext jX);have oV:∀b,F b->b≠w.heap.size:=λb hb=>by have:=HL.out b hb;omega
  have hO:=((Off.refl w.heap.size w3).setCell 0 (.int .u64 g)).setCell 1 v3;have hD4:=hD3.frame (λb hb=>hO.block b (oV b hb)) (dS hO.size.symm);have vX:fA F F w ((w3.setCell ⟨w.heap.size,0,none⟩ (.int .u64 g)).setCell ⟨w.heap.size,1,none⟩ v3):=
   ⟨hO.os.trans mD.os,hO.tape.trans mD.tape,hO.output.trans mD.output,by rw[hO.size];exact mD.size,λb hb hF=>(hO.block b (by omega)).trans (mD.block b hb hF),λb hb=>.inl hb⟩
  have HD4:=ah hD4;have Ah:=ah vX;have HO:=ah hO;have HX3:=ah hx3;clear hD3 mD hD4 vX hO hx3 oV HD HC HV Ik HIS;rcases hcase with⟨hno,rfl,rfl,rfl⟩|⟨gen,ids,hso,rfl,rfl,hown⟩
  ·have hrd:d.aV=(none,.num 6,d1):=by rw[HR.out.1 (by trivial),hno]
   have lY:=ah hrd;clear hrd hno HR;unfold Z5;go_wp2;refine bodyPost_ret (v:=.tuple #[.agg #[.int .u64 0,.slice none 0 0],Z5 6]) (by simp[results,results54,go_sem,z4,z5,Z5]) rfl ⟨0,_,_,rfl,?_,?_,Or.inl ⟨?_,rfl,rfl,?_,?_⟩⟩
   ·rw[lY.out];exact HD4.out
   ·exact Ah.out
   ·rw[lY.out]
   ·rw[lY.out];simp
   ·rw[lY.out];exact CN _ _ _
  ·obtain⟨ia,ic,hv3⟩:=ownsRow_form hown;subst hv3;have hrd:d.aV=(some (gen,ids),.ok,d1):=by rw[HR.out.1 (by trivial),hso]
   have lY:=ah hrd;have HOWN:=ah hown;clear hrd hso HR hown;go_wp2;refine bodyPost_ret (v:=.tuple #[.agg #[.int .u64 gen,.slice ia ids.length ic],.nilIface]) (by simp[results,results54,go_sem,z4,z5]) rfl ⟨_,_,_,rfl,?_,?_,Or.inr ⟨gen,ids,?_,?_,rfl,rfl,?_⟩⟩
   ·rw[lY.out];exact HD4.out
   ·exact Ah.out
   ·rw[lY.out]
   ·rw[lY.out]
   ·have hne:=G8 HOWN.out HX3.out (by decide)
    exact O4 (iV.row HOWN.out _ λb hb=>HO.out.block b λe=>hne (e▸hb)) hsz1
 | num m=>rcases hcl with h|⟨_,h⟩<;>cases h
 | file m nm=>
  obtain⟨fb,hvb,oJ,yC⟩:=LA HV.out;subst hvb;obtain⟨z1,z2,z3,z4,z5⟩:=EB VI.out 0 (.slice none 0 0);have oV:∀b,F b->b≠w.heap.size:=λb hb=>by have:=HL.out b hb;omega
  have hO:=((Off.refl w.heap.size w1).setCell 0 (.int .u64 0)).setCell 1 (.slice none 0 0);have hD4:=HD.out.frame (λb hb=>hO.block b (oV b hb)) (dS hO.size.symm);have vX:fA F F w ((w1.setCell ⟨w.heap.size,0,none⟩ (.int .u64 0)).setCell ⟨w.heap.size,1,none⟩ (.slice none 0 0)):=
   ⟨hO.os.trans HC.out.os,hO.tape.trans HC.out.tape,hO.output.trans HC.out.output,by rw[hO.size];exact HC.out.size,λb hb hF=>(hO.block b (by omega)).trans (HC.out.block b hb hF),λb hb=>.inl hb⟩
  have FQ:fb≠w.heap.size:=λe=>by
   subst e;have h3:=VI.out;unfold o8 at h3 oJ;rw[h3] at oJ;injection oJ with oJ;injection oJ with h4 h5 h6;revert h5;decide
  have OB:Held ((w1.setCell ⟨w.heap.size,0,none⟩ (.int .u64 0)).setCell ⟨w.heap.size,1,none⟩ (.slice none 0 0)) F (λW=>ErrAt W (.iface 132 (.pointer (some ⟨fb,0,none⟩))) (.file m nm)):=
   (Held.box ((hO.block fb FQ).trans oJ) yC).mono λW hW=>⟨_,rfl,hW⟩
  by_cases hm:m=11
  ·subst hm;have hrd:d.aV=(none,.num 5,d1):=HR.out.2 (by simp);have HD4:=ah hD4;have Ah:=ah vX;have lY:=ah hrd;clear hD4 vX hrd oV hO HD HC HR hv hB i_ OB oJ yC FQ;have hd:decide (Er.code (.file 11 nm)=11)=true:=rfl;rw[hd] at HIS;clear hd;go_wp2_with fail
   refine HIS.out.mono ?_;rintro e w2 ⟨rfl,rfl⟩;go_wp2;refine bodyPost_ret (v:=.tuple #[.agg #[.int .u64 0,.slice none 0 0],Z5 5]) (by simp[results,results54,go_sem,z4,z5,Z5]) rfl ⟨0,_,_,rfl,?_,?_,Or.inl ⟨?_,rfl,rfl,?_,?_⟩⟩
   ·rw[lY.out];exact HD4.out
   ·exact Ah.out
   ·rw[lY.out]
   ·rw[lY.out];simp
   ·rw[lY.out];exact CN _ _ _
  ·have hrd:d.aV=(none,.file m nm,d1):=by
    have:=HR.out.2 (by simp);rw[this];simp[Er.code,hm]
   have HD4:=ah hD4;have Ah:=ah vX;have lY:=ah hrd;have HH4:=ah OB;clear hD4 vX hrd oV hO HD HC HR hv hB i_ OB oJ yC FQ;have hd:decide (Er.code (.file m nm)=11)=false:=aI hm;rw[hd] at HIS;clear hd;go_wp2_with fail
   refine HIS.out.mono ?_;rintro e w2 ⟨rfl,rfl⟩;go_wp2;refine bodyPost_ret (v:=.tuple #[.agg #[.int .u64 0,.slice none 0 0],.iface 132 (.pointer (some ⟨fb,0,none⟩))]) (by simp[results,results54,go_sem,z4,z5,Z5]) rfl ⟨0,_,_,rfl,?_,?_,Or.inl ⟨?_,rfl,rfl,?_,?_⟩⟩
   ·rw[lY.out];exact HD4.out
   ·exact Ah.out
   ·rw[lY.out]
   ·rw[lY.out];simp
   ·rw[lY.out];exact HH4.out
end
end Go.Proofs.YtgpbhjjajpbeeaaGreatDoor
namespace Go.Proofs
section
open Go.Shelf
def Tryz.laysM246_ren:Go.Shelf.Ren:=⟨λ|246=>174|283=>202|284=>203|285=>204|286=>205|129=>190|317=>218|318=>219|319=>220|320=>221|337=>226|338=>227|n=>n,λ|2=>2|3=>3|9=>9|4=>4|171=>337|0=>0|53=>24|37=>25|5=>5|173=>339|212=>353|51=>147|20=>20|213=>354|46=>56|232=>367|233=>368|n=>n,λ|17=>1|18=>5|19=>6|n=>n⟩
def Tryz.laysM243_ren:Go.Shelf.Ren:=⟨λ|243=>150|246=>174|283=>202|284=>203|285=>204|286=>205|129=>190|317=>218|318=>219|319=>220|320=>221|337=>226|338=>227|n=>n,λ|3=>3|9=>9|2=>2|4=>4|171=>337|0=>0|53=>24|37=>25|5=>5|173=>339|212=>353|51=>147|20=>20|213=>354|46=>56|232=>367|233=>368|n=>n,λ|17=>1|18=>5|19=>6|n=>n⟩
def Tryz.laysM171_ren:Go.Shelf.Ren:=⟨λ|171=>95|243=>150|246=>174|283=>202|284=>203|285=>204|286=>205|129=>190|317=>218|318=>219|319=>220|320=>221|337=>226|338=>227|n=>n,λ|3=>3|9=>9|2=>2|4=>4|171=>337|0=>0|53=>24|37=>25|5=>5|173=>339|212=>353|51=>147|20=>20|213=>354|46=>56|232=>367|233=>368|n=>n,λ|17=>1|18=>5|19=>6|n=>n⟩
theorem Tryz.laysM171:Go.Proofs.LaysM.n171 prog Tryz.laysM171_ren:={
 mixed:=by kernel_rfl
 f129:=func190.trans (congrArg some (by kernel_rfl))
 f171:=func95.trans (congrArg some (by kernel_rfl))
 f243:=func150.trans (congrArg some (by kernel_rfl))
 f246:=func174.trans (congrArg some (by kernel_rfl))
 f283:=func202.trans (congrArg some (by kernel_rfl))
 f284:=func203.trans (congrArg some (by kernel_rfl))
 f285:=func204.trans (congrArg some (by kernel_rfl))
 f286:=func205.trans (congrArg some (by kernel_rfl))
 f317:=func218.trans (congrArg some (by kernel_rfl))
 f318:=func219.trans (congrArg some (by kernel_rfl))
 f319:=func220.trans (congrArg some (by kernel_rfl))
 f320:=func221.trans (congrArg some (by kernel_rfl))
 f337:=func226.trans (congrArg some (by kernel_rfl))
 f338:=func227.trans (congrArg some (by kernel_rfl))
 t0:=underlying0
 a0:=Tryz.isAgg0
 z0:=Tryz.sizeOf0
 v0:=Tryz.zeroValue0
 t2:=underlying2
 a2:=Tryz.isAgg2
 z2:=Tryz.sizeOf2
 v2:=Tryz.zeroValue2
 t3:=underlying3
 a3:=Tryz.isAgg3
 z3:=Tryz.sizeOf3
 v3:=Tryz.zeroValue3
 t4:=underlying4
 a4:=Tryz.isAgg4
 z4:=Tryz.sizeOf4
 v4:=Tryz.zeroValue4
 t5:=underlying5
 a5:=Tryz.isAgg5
 z5:=Tryz.sizeOf5
 v5:=Tryz.zeroValue5
 t9:=underlying9
 a9:=Tryz.isAgg9
 z9:=Tryz.sizeOf9
 v9:=Tryz.zeroValue9
 t20:=underlying20
 a20:=Tryz.isAgg20
 z20:=Tryz.sizeOf20
 v20:=Tryz.zeroValue20
 t37:=underlying25
 a37:=Tryz.isAgg25
 z37:=Tryz.sizeOf25
 v37:=Tryz.zeroValue25
 t46:=underlying56
 a46:=Tryz.isAgg56
 z46:=Tryz.sizeOf56
 v46:=Tryz.zeroValue56
 t51:=underlying147
 a51:=Tryz.isAgg147
 z51:=Tryz.sizeOf147
 v51:=Tryz.zeroValue147
 t53:=underlying24
 a53:=Tryz.isAgg24
 z53:=Tryz.sizeOf24
 v53:=Tryz.zeroValue24
 t171:=underlying337
 a171:=Tryz.isAgg337
 z171:=Tryz.sizeOf337
 v171:=Tryz.zeroValue337
 t173:=underlying339
 a173:=Tryz.isAgg339
 z173:=Tryz.sizeOf339
 v173:=Tryz.zeroValue339
 t212:=underlying353
 a212:=Tryz.isAgg353
 z212:=Tryz.sizeOf353
 v212:=Tryz.zeroValue353
 t213:=underlying354
 a213:=Tryz.isAgg354
 z213:=Tryz.sizeOf354
 t232:=underlying367
 a232:=Tryz.isAgg367
 z232:=Tryz.sizeOf367
 v232:=Tryz.zeroValue367
 t233:=underlying368
 a233:=Tryz.isAgg368
 z233:=Tryz.sizeOf368
 v233:=Tryz.zeroValue368
 g17:=by kernel_rfl
 g18:=by kernel_rfl
 g19:=by kernel_rfl
 i0:=by kernel_rfl
 i2:=by kernel_rfl
 i3:=by kernel_rfl
 i4:=by kernel_rfl
 i5:=by kernel_rfl
 i9:=by kernel_rfl
 i20:=by kernel_rfl
 i37:=by kernel_rfl
 i46:=by kernel_rfl
 i51:=by kernel_rfl
 i53:=by kernel_rfl
 i171:=by kernel_rfl
 i173:=by kernel_rfl
 i212:=by kernel_rfl
 i232:=by kernel_rfl
 i233:=by kernel_rfl
 m17:=by kernel_rfl
 m18:=by kernel_rfl
 m19:=by kernel_rfl}
open Go.RowKit Go.Sort Go.Lib in
theorem Tryz.strconv_Itoa(n:Int)(h0:-9223372036854775808<=n)(h1:n<=9223372036854775807)(w:World)(htab:Lib.TabIs prog w "internal/strconv.uint64pow10" .u64 Lib.pow10Tab):
 Calls prog 95 #[.int .i64 n] w λe w'=>e=.returned (.string ⟨(Lib.itoa n).toArray⟩)/\∃k os,w'=grow (w.drewN k) os:=Any.strconv_Itoa Tryz.laysM171 n h0 h1 w htab
def Tryz.lays190_ren:Go.Shelf.Ren:=⟨λ|190=>123|125=>165|258=>164|128=>189|129=>190|302=>180|303=>181|304=>182|305=>183|306=>184|307=>185|308=>186|309=>187|310=>188|333=>208|329=>209|330=>210|334=>211|335=>212|336=>213|344=>222|n=>n,λ|31=>73|9=>9|3=>3|46=>56|0=>0|51=>147|53=>24|4=>4|183=>321|182=>320|131=>325|5=>5|218=>343|222=>346|228=>356|229=>357|n=>n,λ|n=>n⟩
theorem Tryz.lays190:Go.Proofs.Lays.n190 prog Tryz.lays190_ren:={
 mixed:=by kernel_rfl
 f125:=func165.trans (congrArg some (by kernel_rfl))
 f128:=func189.trans (congrArg some (by kernel_rfl))
 f129:=func190.trans (congrArg some (by kernel_rfl))
 f190:=func123.trans (congrArg some (by kernel_rfl))
 f258:=func164.trans (congrArg some (by kernel_rfl))
 f302:=func180.trans (congrArg some (by kernel_rfl))
 f303:=func181.trans (congrArg some (by kernel_rfl))
 f304:=func182.trans (congrArg some (by kernel_rfl))
 f305:=func183.trans (congrArg some (by kernel_rfl))
 f306:=func184.trans (congrArg some (by kernel_rfl))
 f307:=func185.trans (congrArg some (by kernel_rfl))
 f308:=func186.trans (congrArg some (by kernel_rfl))
 f309:=func187.trans (congrArg some (by kernel_rfl))
 f310:=func188.trans (congrArg some (by kernel_rfl))
 f329:=func209.trans (congrArg some (by kernel_rfl))
 f330:=func210.trans (congrArg some (by kernel_rfl))
 f333:=func208.trans (congrArg some (by kernel_rfl))
 f334:=func211.trans (congrArg some (by kernel_rfl))
 f335:=func212.trans (congrArg some (by kernel_rfl))
 f336:=func213.trans (congrArg some (by kernel_rfl))
 f344:=func222.trans (congrArg some (by kernel_rfl))
 t0:=underlying0
 a0:=Tryz.isAgg0
 z0:=Tryz.sizeOf0
 v0:=Tryz.zeroValue0
 t3:=underlying3
 a3:=Tryz.isAgg3
 z3:=Tryz.sizeOf3
 v3:=Tryz.zeroValue3
 t4:=underlying4
 a4:=Tryz.isAgg4
 z4:=Tryz.sizeOf4
 v4:=Tryz.zeroValue4
 t5:=underlying5
 a5:=Tryz.isAgg5
 z5:=Tryz.sizeOf5
 v5:=Tryz.zeroValue5
 t9:=underlying9
 a9:=Tryz.isAgg9
 z9:=Tryz.sizeOf9
 v9:=Tryz.zeroValue9
 t31:=underlying73
 a31:=Tryz.isAgg73
 z31:=Tryz.sizeOf73
 v31:=Tryz.zeroValue73
 t46:=underlying56
 a46:=Tryz.isAgg56
 z46:=Tryz.sizeOf56
 v46:=Tryz.zeroValue56
 t51:=underlying147
 a51:=Tryz.isAgg147
 z51:=Tryz.sizeOf147
 v51:=Tryz.zeroValue147
 t53:=underlying24
 a53:=Tryz.isAgg24
 z53:=Tryz.sizeOf24
 v53:=Tryz.zeroValue24
 t131:=underlying325
 a131:=Tryz.isAgg325
 z131:=Tryz.sizeOf325
 v131:=Tryz.zeroValue325
 t182:=underlying320
 a182:=Tryz.isAgg320
 z182:=Tryz.sizeOf320
 v182:=Tryz.zeroValue320
 t183:=underlying321
 a183:=Tryz.isAgg321
 z183:=Tryz.sizeOf321
 v183:=Tryz.zeroValue321
 t218:=underlying343
 a218:=Tryz.isAgg343
 z218:=Tryz.sizeOf343
 v218:=Tryz.zeroValue343
 t222:=underlying346
 a222:=Tryz.isAgg346
 z222:=Tryz.sizeOf346
 v222:=Tryz.zeroValue346
 t228:=underlying356
 a228:=Tryz.isAgg356
 z228:=Tryz.sizeOf356
 v228:=Tryz.zeroValue356
 t229:=underlying357
 a229:=Tryz.isAgg357
 z229:=Tryz.sizeOf357
 v229:=Tryz.zeroValue357}
open Go.Sort Go.RowKit in
theorem Tryz.slices_Sort_string(blk off cap:Nat)(ss:List (List UInt8))(w:World)(hH:Holds encStr w blk off ss.toArray)(hblk:blk<w.heap.size)(hsz:ss.length<4611686018427387904):
 Calls prog 123 #[.slice (some ⟨blk,off,none⟩) ss.length cap] w λe w'=>
  e=.returned (.tuple #[])/\∃n os,w'=grow (putRow encStr (Sort.ahead w n) blk off (ss.mergeSort λx y=>decide (x<=y)).toArray) os:=Any.slices_Sort_string Tryz.lays190 blk off cap ss w hH hblk hsz
def Tryz.lays105_ren:Go.Shelf.Ren:=⟨λ|105=>96|212=>151|99=>152|165=>153|166=>154|170=>155|169=>156|263=>175|264=>176|206=>177|240=>178|241=>179|276=>206|277=>207|n=>n,λ|9=>9|3=>3|4=>4|20=>20|0=>0|46=>56|109=>267|5=>5|72=>271|76=>165|51=>147|146=>314|53=>24|148=>316|70=>269|37=>25|75=>34|127=>318|164=>209|80=>273|n=>n,λ|n=>n⟩
theorem Tryz.lays105:Go.Proofs.Lays.n105 prog Tryz.lays105_ren:={
 mixed:=by kernel_rfl
 f99:=func152.trans (congrArg some (by kernel_rfl))
 f105:=func96.trans (congrArg some (by kernel_rfl))
 f165:=func153.trans (congrArg some (by kernel_rfl))
 f166:=func154.trans (congrArg some (by kernel_rfl))
 f169:=func156.trans (congrArg some (by kernel_rfl))
 f170:=func155.trans (congrArg some (by kernel_rfl))
 f206:=func177.trans (congrArg some (by kernel_rfl))
 f212:=func151.trans (congrArg some (by kernel_rfl))
 f240:=func178.trans (congrArg some (by kernel_rfl))
 f241:=func179.trans (congrArg some (by kernel_rfl))
 f263:=func175.trans (congrArg some (by kernel_rfl))
 f264:=func176.trans (congrArg some (by kernel_rfl))
 f276:=func206.trans (congrArg some (by kernel_rfl))
 f277:=func207.trans (congrArg some (by kernel_rfl))
 t0:=underlying0
 a0:=Tryz.isAgg0
 z0:=Tryz.sizeOf0
 v0:=Tryz.zeroValue0
 t3:=underlying3
 a3:=Tryz.isAgg3
 z3:=Tryz.sizeOf3
 v3:=Tryz.zeroValue3
 t4:=underlying4
 a4:=Tryz.isAgg4
 z4:=Tryz.sizeOf4
 v4:=Tryz.zeroValue4
 t5:=underlying5
 a5:=Tryz.isAgg5
 z5:=Tryz.sizeOf5
 v5:=Tryz.zeroValue5
 t9:=underlying9
 a9:=Tryz.isAgg9
 z9:=Tryz.sizeOf9
 v9:=Tryz.zeroValue9
 t20:=underlying20
 a20:=Tryz.isAgg20
 z20:=Tryz.sizeOf20
 v20:=Tryz.zeroValue20
 t37:=underlying25
 a37:=Tryz.isAgg25
 z37:=Tryz.sizeOf25
 v37:=Tryz.zeroValue25
 t46:=underlying56
 a46:=Tryz.isAgg56
 z46:=Tryz.sizeOf56
 v46:=Tryz.zeroValue56
 t51:=underlying147
 a51:=Tryz.isAgg147
 z51:=Tryz.sizeOf147
 v51:=Tryz.zeroValue147
 t53:=underlying24
 a53:=Tryz.isAgg24
 z53:=Tryz.sizeOf24
 v53:=Tryz.zeroValue24
 t70:=underlying269
 a70:=Tryz.isAgg269
 z70:=Tryz.sizeOf269
 v70:=Tryz.zeroValue269
 t72:=underlying271
 a72:=Tryz.isAgg271
 z72:=Tryz.sizeOf271
 v72:=Tryz.zeroValue271
 t75:=underlying34
 a75:=Tryz.isAgg34
 z75:=Tryz.sizeOf34
 v75:=Tryz.zeroValue34
 t76:=underlying165
 a76:=Tryz.isAgg165
 z76:=Tryz.sizeOf165
 v76:=Tryz.zeroValue165
 t109:=underlying267
 a109:=Tryz.isAgg267
 z109:=Tryz.sizeOf267
 v109:=Tryz.zeroValue267
 t127:=underlying318
 a127:=Tryz.isAgg318
 z127:=Tryz.sizeOf318
 v127:=Tryz.zeroValue318
 t146:=underlying314
 a146:=Tryz.isAgg314
 z146:=Tryz.sizeOf314
 v146:=Tryz.zeroValue314
 t148:=underlying316
 a148:=Tryz.isAgg316
 z148:=Tryz.sizeOf316
 v148:=Tryz.zeroValue316
 t164:=underlying209
 a164:=Tryz.isAgg209
 z164:=Tryz.sizeOf209
 v164:=Tryz.zeroValue209}
theorem Tryz.Builder_Extra_105:Builder.Extra prog Tryz.lays105_ren:={
 sizeBuilder:=by kernel_rfl
 liesBuilder:=by kernel_rfl
 t5:=underlying5
 a5:=Tryz.isAgg5
 z5:=Tryz.sizeOf5
 v5:=Tryz.zeroValue5
 infoByte:=by kernel_rfl
 cellsByte:=by kernel_rfl
 sizeByte:=by kernel_rfl
 neB5:=by decide}
open Go.RowKit Go.Lib in
theorem Tryz.strings_Repeat(s:ByteArray)(c:Nat)(w:World)(hc:c<=9223372036854775807)(hlen:s.size*c<=140737488355328):
 Calls prog 96 #[.string s,.int .i64 c] w λe w'=>e=.returned (.string ⟨(Lib.repeatL s.data.toList c).toArray⟩)/\Below w.heap.size w w':=Any.strings_Repeat Tryz.lays105 Tryz.Builder_Extra_105 s c w hc hlen
open Go.RowKit Go.Sort in
theorem Tryz.slices_Sort_string_none(p:Option Addr)(cap:Nat)(w:World):
 Calls prog 123 #[.slice p 0 cap] w λe w'=>e=.returned (.tuple #[])/\w'=w:=Any.slices_Sort_string_none Tryz.lays190 p cap w
end
end Go.Proofs
namespace Go.Proofs.YtgpbhjjajpbeeaaGreatDoor
section
open Go.RowKit Go.Lib Go.Maps Dk
def Ee(w:World)(B:Nat)(v:Value)(l:List Nm):Prop:=w.ownsRow B 9 1 v l.length (l.map bC)
def S3(d:D)(w:World)(e:Ending)(w':World):Prop:=∃v,e=.returned v/\Ee w' w.heap.size v d.list/\Ext w w'
theorem CM:(prog.info? 9).map (λi=>(i.zero,i.size,i.bytes))=some (some (.string ⟨#[]⟩),1,16):=by kernel_rfl
theorem Vv{α β:Type}{P:Program}{k:TypeId}{kf:α->Value}{vf:β->Value}{w:World}{r i:Nat}{l vis:List (α×β)}{e:TypeId}{size B:Nat}{v:Value}{n:Nat}{xs:List Value}
 (h:w.ownsRow B e size v n xs)(hr:U4 P k kf vf w i r l vis):v.ownBlock≠some i:=by
 intro hv;obtain⟨es,clock,seen,js,h1,h2,_⟩:=hr;rcases h.2 with⟨rfl,_⟩|⟨g,cap,cur,rfl,hg,hh,_⟩
 ·cases hv
 ·simp[Value.ownBlock] at hv;subst hv;rw[h2] at hh;cases hh
theorem b98(F:Nat->Prop)(a:Nat)(d:D)(w:World)(h:A7 w F a d)(hnl:d.now.length<=32768):Calls prog 66 #[o7 a] w (S3 d w):=by
 obtain⟨m1,m2,mv,gs,dv,hr⟩:=h;obtain⟨i0,hi,hz0,hz1,hz2⟩:=info_parts CM;have c0:=hr.box.cell 0;obtain⟨w2,hrange,oW,yM,hsz2⟩:=hr.now.range underlying171;have HR:=ah hr;have KN:=ah oW;have HEX:=ah yM;clear hr oW yM;unfold o7;go_enter func66,ntmps66
 go_wp2;go_loopw [3] (λi wr=>∃vis,U4 prog 9 bC o7 wr w.heap.size m1 d.now vis/\wr.ownsRow w.heap.size 9 1 i vis.length (vis.map λp=>bC p.1)/\Ext w wr) (λ_ wr=>d.now.length - TD wr w.heap.size)
 case atStart=>exact⟨[],KN.out,⟨rfl,Or.inl ⟨rfl,rfl⟩⟩,HEX.out⟩
 case round=>
  obtain⟨vis,oW,hown,jg⟩:=hrel;have hvl:=oW.length;have jM:=oW.seen;obtain⟨va,vc,rfl⟩:=ownsRow_form hown;rcases oW.next 0 with⟨p,w3,hnx,hpm,pV,hO3,hent,Xl⟩|⟨hnx,hperm⟩
  ·have hne:=Vv hown oW;have hown3:w3.ownsRow w.heap.size 9 1 (.slice va vis.length vc) vis.length (vis.map λp=>bC p.1):=iV.row hown w3 λb hb=>hO3.block b (λe=>hne (e▸hb));have BH:=Vv hown3 pV;have tJ:Ext w w3:=jg.off hO3 (aj _);have hl3:=pV.lt;have hm1:(Value.slice va vis.length vc).ownBlock≠some m1:=Q8 hown3 ((HR.out.ext tJ).now);have nV:=pV.seen;have HH:=ah pV;have Rx:=ah jM;have Rw:=ah nV;have qG:=ah tJ;have zO:=ah BH;have zQ:=ah hl3;have Dp:=ah hm1;clear pV jM nV oW hO3 tJ hne BH hl3 hown hm1 jg;unfold bC o7 at hnx hent;go_wp2_with (at_builtin;go_must (refine D8 rfl _ _ 73 rfl w.heap.size 9 i0 (.string ⟨#[]⟩) 1 16 underlying73 hi hz0 hz1 hz2 rfl (by omega) (.slice va vis.length vc) vis.length _ rfl (hown3.alloc (.cells #[bC p.1] 9)) (.slice (some ⟨w3.heap.size,0,none⟩) 1 1) 1 [bC p.1] rfl ⟨_,_,rfl,by omega,⟨by omega,λh=>by cases h⟩,λ_=>⟨_,rfl,World.news_of_block (cs:=#[bC p.1]) (t:=9) (fr:=(0,0)) (heap_alloc_new w3 _)⟩⟩ rfl (by simp[Value.oneCell',bC]) (by unfold maxLen;omega) (by omega) (by have:=qG.out.size;simp;omega) ?_);intro b6 c6 w6 hown6 hgrow6 jL;have qP:=ah hown6;have qQ:=ah hgrow6;clear hown6 hgrow6 jL)
   go_roundw
   case rel=>
    have Oj:U4 prog 9 bC o7 w6 w.heap.size m1 d.now (vis++[p]):=HH.out.block
     ((qQ.out.block _ (by simp;have:=zQ.out.1;omega) (λe=>zO.out e.symm)).trans (heap_alloc_old w3 _ zQ.out.1))
     ((qQ.out.block _ (by simp;have:=zQ.out.2.1;omega) (λe=>Dp.out e.symm)).trans (heap_alloc_old w3 _ zQ.out.2.1))
    refine⟨vis++[p],Oj,?_,?_⟩
    ·have:=qP.out;simpa using this
    ·exact Below.grown (qG.out.new (.cells #[bC p.1] 9)) qQ.out (by have:=qG.out.size;simp;omega) (λk hk=>(hown3.lt k hk).1)
   case measure=>
    have Oj:U4 prog 9 bC o7 w6 w.heap.size m1 d.now (vis++[p]):=HH.out.block
     ((qQ.out.block _ (by simp;have:=zQ.out.1;omega) (λe=>zO.out e.symm)).trans (heap_alloc_old w3 _ zQ.out.1))
     ((qQ.out.block _ (by simp;have:=zQ.out.2.1;omega) (λe=>Dp.out e.symm)).trans (heap_alloc_old w3 _ zQ.out.2.1))
    rw[Rx.out,Oj.seen];simp;omega
  ·have hvm:(vis.map λp=>bC p.1)=(vis.map Prod.fst).map bC:=by simp
   have hls:(vis.map Prod.fst).mergeSort nI=d.list:=bR (hperm.map _);have hlen:d.list.length=vis.length:=by rw[<-hls];simp
   rw[hvm] at hown;have ho:=hown;rcases hown.2 with⟨hnil,h0⟩|⟨g,cap,cur,hgv,hbase,hb,h1,h2,h3,h4⟩
   ·have hs:=Tryz.slices_Sort_string_none va vc wr;have HS:=ah hs;rw[h0] at ho;have hd:d.list=[]:=cZ (by omega);clear hs hrange oW hperm hown jM hvm;go_wp2_with fail
    refine HS.out.mono ?_;rintro e w4 ⟨rfl,rfl⟩;go_wp2;go_ret;refine⟨.slice va 0 vc,rfl,?_,jg⟩;have hv0:vis=[]:=cZ h0;subst hv0;rw[hd];exact ho
   ·injection hgv with e1 e2 e3;subst e1;subst e3;have hlm:(vis.map Prod.fst).length=vis.length:=by simp
    have hH:Go.Sort.Holds encStr wr g 0 (vis.map Prod.fst).toArray:=holds_of_block hb (by rw[hlm,<-qx vis.length];exact h4);have hs:=Tryz.slices_Sort_string g 0 vc (vis.map Prod.fst) wr hH (aN.1 hb).1 (by rw[hlm];omega);rw[hlm] at hs;have HS:=ah hs;have HBK:=ah hb;have H3:=ah h3;clear hs hrange oW hperm hown jM hvm hH hb h4 h3;go_wp2_with fail
    refine HS.out.mono ?_;rintro e w4 ⟨rfl,n,os,hw4⟩;have VK:=ah hw4;clear hw4;go_wp2;go_ret;refine⟨.slice (some ⟨g,0,none⟩) vis.length vc,rfl,?_,?_⟩
    ·have:=ownsRow_sorted (n:=n) (os:=os) (ss:=vis.map Prod.fst) (ts:=d.list) (by rw[hlen,hlm]) hbase HBK.out (by rw[hlm];exact h1) h2 H3.out;rw[<-hls] at this;rw[VK.out];unfold Ee;rw[hlen,<-hls];rw[hlm] at this;exact this
    ·rw[VK.out];exact Below.grown jg (grownBy_sorted _) jg.size (λk hk=>by injection hk with hk;omega)
end
section
open Go.RowKit Go.Lib Pl
theorem V9(v:Value)(l:List UInt8)(w:World)(h:Bytes w v l)(hl:l.length<=8):
 Calls prog 75 #[v] w λe w'=>e=.returned (.int .u64 (num l))/\w=w':=by
 obtain⟨a,cap,rfl,hc,hc',hcell⟩:=h.open;go_enter func75,ntmps75
 go_wp2;go_loop [3,4] (λc i=>∃k:Nat,k<=l.length/\i=.int .i64 k/\c=.int .u64 (num (l.take k))) (λ_ i=>l.length - (intOf i).toNat)
 case atStart=>exact⟨0,bU _,rfl,rfl⟩
 case round=>
  obtain⟨k,hk,rfl,rfl⟩:=hrel;by_cases hlt:k<l.length
  ·obtain⟨b,rfl,hb⟩:=hcell k hlt;have hs:Hid (num (l.take (k+1))=num (l.take k)*256+l[k].toNat):=by
    have e:num (l.take (k+1))=num (l.take k)*256+l[k].toNat:=by rw[take_snoc l k hlt,ZO]
    exact e
   have hC:num (l.take k)<256^7:=ak (TG _) (ji (by omega) (by rw[bD];omega));clear hcell;generalize num (l.take k)=C at *;have hx:=JL l[k];generalize l[k]=x at *;have hC':C<72057594037927936:=hC;clear hC;go_wp2;go_round
   case rel=>
    refine⟨k+1,by omega,by go_num,?_⟩;rw[hs.out];go_num
   case measure=>simp[intOf];omega
  ·go_wp2;go_ret;obtain rfl:k=l.length:=by omega
   exact⟨by rw[bG];rfl,rfl⟩
theorem X8(v:Value)(B:Nat)(l:List UInt8)(n k:Nat)(w:World)(h:OwnB w B v l)(hk:k<=8)(hl:l.length<=1000000)(hB:B<=w.heap.size):
 Calls prog 89 #[v,.int .u64 n,.int .i64 k] w (Hm B (l++be n k) w):=by
 obtain⟨i0,hi,hz0,hz1,hz2⟩:=info_parts JY;have hk0:IntKind.i64.wrap ((k:Int) - 1)=(k:Int) - 1:=IntWalk.i64_in _ (by omega);go_enter func89,ntmps89
 go_wp2;go_loopw [0,7] (λu c wr=>∃j:Nat,j<=k/\c=.int .i64 ((j:Int) - 1)/\(∃l',l'++be n j=l++be n k/\OwnB wr B u l')/\Below B w wr) (λ_ c _=>(intOf c+1).toNat)
 case atStart=>exact⟨k,aj _,rfl,⟨l,rfl,h⟩,Below.refl _ _⟩
 case round=>
  obtain⟨j,hj,rfl,⟨l',hl',hown⟩,hb⟩:=hrel;by_cases hj0:0<j
  ·obtain⟨j,rfl⟩:∃i,j=i+1:=⟨j - 1,by omega⟩;rw[show((j+1:Nat):Int) - 1=(j:Int) from by omega];have hw1:IntKind.i64.wrap (8*(j:Int))=8*(j:Int):=IntWalk.i64_in _ (by omega);have hw2:(0:Int)<=8*(j:Int):=by omega
   have hlen:l'.length<=1000008:=by
    have:=congrArg List.length hl';simp only[aC,I7] at this;omega
   have hsz:=hb.size;go_wp2_with (at_builtin;go_must (refine wpList_append_lies _ rfl _ _ _ rfl B 5 i0 _ 1 1 underlying25 hi hz0 hz1 hz2 rfl (by omega) _ l'.length (l'.map dX) rfl (hown.alloc _) ⟨wr.heap.size,0,none⟩ 1 1 [_] rfl rfl (World.news_of_block (cs:=#[_]) (t:=5) (fr:=(0,0)) (heap_alloc_new wr _)) (by simp[Value.oneCell']) (by omega) (by unfold maxLen;omega) (by omega) (by simp;omega) (wr.heap.size+1) (by simp) ?_);intro gg cap w1 hown1 hgrow hat hlt1)
   go_roundw
   case rel=>
    refine⟨j,by omega,rfl,⟨l'++[UInt8.ofNat (n/256^j)],by rw[fH];exact hl',?_⟩,?_⟩
    ·rw[c1J] at hown1;unfold OwnB;rw[aC,bY];exact hown1
    ·exact(hb.alloc (by omega) _).grown hgrow (by simp;omega) (λk hk=>(hown.lt k hk).1)
   case measure=>simp[intOf]
  ·obtain rfl:j=0:=by omega
   go_wp2;go_ret;simp only[be,dO] at hl';subst hl';exact⟨_,rfl,hown,hb⟩
end
section
open Go.RowKit Go.Lib Pl
def w_(seq:Nat)(k v:ByteArray)(d:Bool)(size:Int):Value:=.agg #[.int .u64 seq,.string k,.string v,.bool d,.int .i64 size]
def tj(n:Int)(w:World)(e:Ending)(w':World):Prop:=e=.returned (.tuple #[.slice none 0 0,.int .i64 n])/\Ext w w'
def b5U(l:List UInt8)(w:World)(e:Ending)(w':World):Prop:=∃v,e=.returned (.tuple #[v,.int .i64 0])/\OwnB w' w.heap.size v l/\Ext w w'
theorem aD(w:World)(x:Value)(t:TypeId):uZ (w.alloc (.cells #[x] t)) (.slice (some ⟨w.heap.size,0,none⟩) 1 1) 1 [x]:=
 ⟨_,_,rfl,aj _,⟨by omega,λh=>by cases h⟩,λ_=>⟨_,rfl,λi y hy=>World.news_of_block (cs:=#[x]) (t:=t) (fr:=(0,0)) (heap_alloc_new w _) i y hy⟩⟩
theorem b0q(seq:Nat)(k v:ByteArray)(d:Bool)(sz:Int)(w:World)(h:k.size<1\/16<k.size):
 Calls prog 49 #[w_ seq k v d sz] w (tj 1 w):=by
 unfold w_;rcases h with h|h
 ·have h0:((k.size:Int)==0)=true:=dP.2 (by omega);go_enter func49,ntmps49
  go_wp2;go_ret2
  exact⟨rfl,Below.alloc (Below.refl _ _) (aj _) _⟩
 ·have h0:((k.size:Int)==0)=false:=bn.2 (by omega);go_enter func49,ntmps49
  go_wp2;go_ret2
  exact⟨rfl,Below.alloc (Below.refl _ _) (aj _) _⟩
theorem b0r(seq:Nat)(k v:ByteArray)(d:Bool)(sz:Int)(w:World)(h1:1<=k.size)(h2:k.size<=16)(h:64<v.size\/(v.size<=64/\d=true/\0<v.size)):
 Calls prog 49 #[w_ seq k v d sz] w (tj 2 w):=by
 unfold w_;have h0:((k.size:Int)==0)=false:=bn.2 (by omega);have h'':¬16<k.size:=by omega
 rcases h with h|⟨h,rfl,hv⟩
 ·go_enter func49,ntmps49
  go_wp2;go_ret2
  exact⟨rfl,Below.alloc (Below.refl _ _) (aj _) _⟩
 ·have hv':v.toList.isEmpty=false:=by rw[X1];exact aI (by omega)
  go_enter func49,ntmps49
  go_wp2;go_ret2
  exact⟨rfl,Below.alloc (Below.refl _ _) (aj _) _⟩
theorem b2M(seq:Nat)(k v:ByteArray)(d:Bool)(sz:Int)(w:World)(h1:1<=k.size)(h2:k.size<=16)(hv:v.size<=64)(h:d=false\/v.size=0):
 Calls prog 49 #[w_ seq k v d sz] w (b5U (summed (body seq k.data.toList v.data.toList d)) w):=by
 unfold w_;obtain⟨i0,hi,hz0,hz1,hz2⟩:=info_parts JY;have h0:((k.size:Int)==0)=false:=bn.2 (by omega);have h'':¬16<k.size:=by omega
 have h3:¬64<v.size:=by omega
 have hwk:IntKind.u64.wrap (k.size:Int)=(k.size:Int):=by rw[IntKind.wrap_u64];omega
 have hwv:IntKind.u64.wrap (v.size:Int)=(v.size:Int):=by rw[IntKind.wrap_u64];omega
 rcases Bool.eq_false_or_eq_true d with rfl|rfl
 ·have hv':v.toList.isEmpty=true:=by rw[X1];exact aG (by simpa using h)
  go_enter func49,ntmps49
  go_wp2_with fail
  have hx:o8 (w.alloc (.cells #[.int .u64 seq,.string k,.string v,.bool true,.int .i64 sz] 116)) w.heap.size 116 #[.int .u64 seq,.string k,.string v,.bool true,.int .i64 sz]:=heap_alloc_new w _;have hb:Below (w.heap.size+1) (w.alloc (.cells #[.int .u64 seq,.string k,.string v,.bool true,.int .i64 sz] 116)) (w.alloc (.cells #[.int .u64 seq,.string k,.string v,.bool true,.int .i64 sz] 116)):=Below.refl _ _;have hs:w.heap.size+1<=(w.alloc (.cells #[.int .u64 seq,.string k,.string v,.bool true,.int .i64 sz] 116)).heap.size:=by simp
  refine(X8 _ (w.heap.size+1) ([]) (seq) 8 _ (World.ownsRow_nil _ _ _ _) (by omega) (by simp[I7,J6]<;>omega) hs).mono ?_;rintro e w2 ⟨v2,rfl,hown,hbn⟩;replace hx:=hx.below hbn (by omega);replace hs:=ay hs hbn.size;replace hb:=hb.trans hbn;clear hbn;have Oa:w2.cell? ⟨w.heap.size,3,none⟩=some (.bool true):=hx.cell 3;rw[cO] at hown;have hs2:w.heap.size+1<=w2.heap.size:=hs;have e3:(be seq 8++be 1 1).map dX=(be seq 8).map dX++[.int .u8 1]:=by rw[bY];rfl
  have e3':(be seq 8++be 1 1).length=(be seq 8).length+1:=by simp[I7]
  have E3:=ah e3;clear e3;have j9:=ah e3';clear e3';go_wp2_with (at_builtin;go_must (refine D8 rfl _ _ 25 rfl (w.heap.size+1) 5 i0 (.int .u8 0) 1 1 underlying25 hi hz0 hz1 hz2 rfl (by omega) v2 _ _ rfl (hown.alloc _) _ 1 [.int .u8 1] rfl (aD w2 _ _) rfl (by simp[Value.oneCell']) (by simp[I7,maxLen]) (by simp[I7]) (by simp;omega) ?_);intro b3 c3 w3 hown3 hgrow3 Gf;clear Gf;have hx3:=(hx.alloc (.cells #[.int .u8 1] 5)).grown hgrow3 (λk hk=>by have:=(hown.lt k hk).1;omega);have hc31:w3.cell? ⟨w.heap.size,1,none⟩=some (.string k):=hx3.cell 1)
  replace hb:=(hb.alloc hs (.cells #[.int .u8 1] 5)).grown hgrow3 (by simp;omega) (λk hk=>(hown.lt k hk).1);replace hs:w.heap.size+1<=w3.heap.size:=by have:=hgrow3.size;simp at this;omega
  clear hx hown hs2;have hx:=hx3;have hown:OwnB w3 (w.heap.size+1) (.slice b3 ((be seq 8).length+1) c3) (be seq 8++be 1 1):=by
   unfold OwnB;rw[E3.out,j9.out];exact hown3
  clear hown3 hgrow3 hx3;refine(X8 _ (w.heap.size+1) (be seq 8++be 1 1) (k.size) 1 _ hown (by omega) (by simp[I7,J6]<;>omega) hs).mono ?_;rintro e w4 ⟨v4,rfl,hown,hbn⟩;replace hx:=hx.below hbn (by omega);replace hs:=ay hs hbn.size;replace hb:=hb.trans hbn;clear hbn;have N_:w4.cell? ⟨w.heap.size,2,none⟩=some (.string v):=hx.cell 2;go_wp2_with fail
  refine(X8 _ (w.heap.size+1) (be seq 8++be 1 1++be k.size 1) (v.size) 2 _ hown (by omega) (by simp[I7,J6]<;>omega) hs).mono ?_;rintro e w5 ⟨v5,rfl,hown,hbn⟩;replace hx:=hx.below hbn (by omega);replace hs:=ay hs hbn.size;replace hb:=hb.trans hbn;clear hbn;have NZ:w5.cell? ⟨w.heap.size,1,none⟩=some (.string k):=hx.cell 1;generalize hL:be seq 8++be 1 1++be k.size 1++be v.size 2=L5 at *;have Ox:L5.length=12:=by rw[<-hL];simp[I7]
  have HL:=ah hL;clear hL;have Dq:=ah Ox;clear Ox;go_wp2_with (first|(at_builtin;refine wpList_append_text rfl _ _ 25 9 rfl (w.heap.size+1) 5 i0 underlying25 underlying9 hi hz0 hz1 hz2 v5 L5 rfl hown k rfl (by rw[Dq.out];unfold maxLen;omega) (by rw[Dq.out];omega) hs ?_;intro b6 c6 w6 hown6 hgrow6;have hx6:=hx.grown hgrow6 (λk hk=>by have:=(hown.lt k hk).1;omega);have FW:w6.cell? ⟨w.heap.size,2,none⟩=some (.string v):=hx6.cell 2;have hs6:w.heap.size+1<=w6.heap.size:=ay hs hgrow6.size)|(at_builtin;refine wpList_append_text rfl _ _ 25 9 rfl (w.heap.size+1) 5 i0 underlying25 underlying9 hi hz0 hz1 hz2 (.slice b6 (L5.length+k.size) c6) (L5++k.data.toList) rfl hown6 v rfl (by rw[aC,J6,Dq.out];unfold maxLen;omega) (by rw[aC,J6,Dq.out];omega) hs6 ?_;intro b7 c7 w7 jf iG))
  replace hb:=(hb.grown hgrow6 hs (λk hk=>(hown.lt k hk).1)).grown iG hs6 (λk hk=>(hown6.lt k hk).1);have hs7:w.heap.size+1<=w7.heap.size:=ay hs6 iG.size;have hI:OwnB w7 (w.heap.size+1) (.slice b7 (L5.length+k.size+v.size) c7) (body seq k.data.toList v.data.toList true):=by
   rw[show(L5++k.data.toList).length=L5.length+k.size by rw[aC,J6]] at jf;rw[show L5++k.data.toList++v.data.toList=body seq k.data.toList v.data.toList true by rw[<-HL.out];simp[body,J6]] at jf;exact jf
  have ry:(body seq k.data.toList v.data.toList true).length<=92:=by simp[body,I7,J6];omega
  clear jf iG hown6 hgrow6 hx hx6 FW hs6 hs;generalize Value.slice b7 (L5.length+k.size+v.size) c7=v7 at *;generalize body seq k.data.toList v.data.toList true=I at *;refine(QH v7 I w7 hI.bytes).mono ?_;rintro e w8 ⟨rfl,rfl⟩;have hwc:IntKind.u64.wrap ((crc I:Nat):Int)=((crc I:Nat):Int):=by rw[IntKind.wrap_u64];have:=Ew I;omega
  go_wp2_with fail
  refine(X8 _ w7.heap.size [] (crc I) 4 _ (World.ownsRow_nil _ _ _ _) (by omega) (by simp) (aj _)).mono ?_;rintro e w9 ⟨v9,rfl,jO,uJ⟩;rw[cO] at jO;generalize hC:be (crc I) 4=C at *;have sH:C.length=4:=by rw[<-hC,I7]
  have HC:=ah hC;clear hC;have EZ:=ah sH;clear sH;clear hwc;go_wp2_with (at_builtin;go_must (refine D8 rfl _ _ 25 rfl w7.heap.size 5 i0 (.int .u8 0) 1 1 underlying25 hi hz0 hz1 hz2 rfl (by omega) v9 C.length _ rfl jO v7 I.length (I.map dX) rfl (hI.bytes.ext uJ) (by simp) (EP _) (by rw[EZ.out];unfold maxLen;omega) (by rw[EZ.out];omega) uJ.size ?_);intro b10 c10 w10 kD jP nX;clear nX)
  go_ret2
  refine⟨_,rfl,?_,?_⟩
  ·unfold OwnB;have e1:(summed I).map dX=C.map dX++I.map dX:=by rw[<-bY,summed,HC.out]
   have e2:(summed I).length=C.length+I.length:=by rw[summed,HC.out,aC]
   rw[e1,e2];exact O4 kD (by omega)
  ·have h9:Below (w.heap.size+1) w7 w10:=(uJ.mono hs7).grown jP (ay hs7 uJ.size) (λk hk=>by have:=(jO.lt k hk).1;omega);exact(Below.alloc (Below.refl _ _) (aj _) _).trans ((hb.trans h9).mono (by omega))
 ·go_enter func49,ntmps49
  go_wp2_with fail
  have hx:o8 (w.alloc (.cells #[.int .u64 seq,.string k,.string v,.bool false,.int .i64 sz] 116)) w.heap.size 116 #[.int .u64 seq,.string k,.string v,.bool false,.int .i64 sz]:=heap_alloc_new w _;have hb:Below (w.heap.size+1) (w.alloc (.cells #[.int .u64 seq,.string k,.string v,.bool false,.int .i64 sz] 116)) (w.alloc (.cells #[.int .u64 seq,.string k,.string v,.bool false,.int .i64 sz] 116)):=Below.refl _ _;have hs:w.heap.size+1<=(w.alloc (.cells #[.int .u64 seq,.string k,.string v,.bool false,.int .i64 sz] 116)).heap.size:=by simp
  refine(X8 _ (w.heap.size+1) ([]) (seq) 8 _ (World.ownsRow_nil _ _ _ _) (by omega) (by simp[I7,J6]<;>omega) hs).mono ?_;rintro e w2 ⟨v2,rfl,hown,hbn⟩;replace hx:=hx.below hbn (by omega);replace hs:=ay hs hbn.size;replace hb:=hb.trans hbn;clear hbn;have Oa:w2.cell? ⟨w.heap.size,3,none⟩=some (.bool false):=hx.cell 3;rw[cO] at hown;have hs2:w.heap.size+1<=w2.heap.size:=hs;have e3:(be seq 8++be 0 1).map dX=(be seq 8).map dX++[.int .u8 0]:=by rw[bY];rfl
  have e3':(be seq 8++be 0 1).length=(be seq 8).length+1:=by simp[I7]
  have E3:=ah e3;clear e3;have j9:=ah e3';clear e3';go_wp2_with (at_builtin;go_must (refine D8 rfl _ _ 25 rfl (w.heap.size+1) 5 i0 (.int .u8 0) 1 1 underlying25 hi hz0 hz1 hz2 rfl (by omega) v2 _ _ rfl (hown.alloc _) _ 1 [.int .u8 0] rfl (aD w2 _ _) rfl (by simp[Value.oneCell']) (by simp[I7,maxLen]) (by simp[I7]) (by simp;omega) ?_);intro b3 c3 w3 hown3 hgrow3 Gf;clear Gf;have hx3:=(hx.alloc (.cells #[.int .u8 0] 5)).grown hgrow3 (λk hk=>by have:=(hown.lt k hk).1;omega);have hc31:w3.cell? ⟨w.heap.size,1,none⟩=some (.string k):=hx3.cell 1)
  replace hb:=(hb.alloc hs (.cells #[.int .u8 0] 5)).grown hgrow3 (by simp;omega) (λk hk=>(hown.lt k hk).1);replace hs:w.heap.size+1<=w3.heap.size:=by have:=hgrow3.size;simp at this;omega
  clear hx hown hs2;have hx:=hx3;have hown:OwnB w3 (w.heap.size+1) (.slice b3 ((be seq 8).length+1) c3) (be seq 8++be 0 1):=by
   unfold OwnB;rw[E3.out,j9.out];exact hown3
  clear hown3 hgrow3 hx3;refine(X8 _ (w.heap.size+1) (be seq 8++be 0 1) (k.size) 1 _ hown (by omega) (by simp[I7,J6]<;>omega) hs).mono ?_;rintro e w4 ⟨v4,rfl,hown,hbn⟩;replace hx:=hx.below hbn (by omega);replace hs:=ay hs hbn.size;replace hb:=hb.trans hbn;clear hbn;have N_:w4.cell? ⟨w.heap.size,2,none⟩=some (.string v):=hx.cell 2;go_wp2_with fail
  refine(X8 _ (w.heap.size+1) (be seq 8++be 0 1++be k.size 1) (v.size) 2 _ hown (by omega) (by simp[I7,J6]<;>omega) hs).mono ?_;rintro e w5 ⟨v5,rfl,hown,hbn⟩;replace hx:=hx.below hbn (by omega);replace hs:=ay hs hbn.size;replace hb:=hb.trans hbn;clear hbn;have NZ:w5.cell? ⟨w.heap.size,1,none⟩=some (.string k):=hx.cell 1;generalize hL:be seq 8++be 0 1++be k.size 1++be v.size 2=L5 at *;have Ox:L5.length=12:=by rw[<-hL];simp[I7]
  have HL:=ah hL;clear hL;have Dq:=ah Ox;clear Ox;go_wp2_with (first|(at_builtin;refine wpList_append_text rfl _ _ 25 9 rfl (w.heap.size+1) 5 i0 underlying25 underlying9 hi hz0 hz1 hz2 v5 L5 rfl hown k rfl (by rw[Dq.out];unfold maxLen;omega) (by rw[Dq.out];omega) hs ?_;intro b6 c6 w6 hown6 hgrow6;have hx6:=hx.grown hgrow6 (λk hk=>by have:=(hown.lt k hk).1;omega);have FW:w6.cell? ⟨w.heap.size,2,none⟩=some (.string v):=hx6.cell 2;have hs6:w.heap.size+1<=w6.heap.size:=ay hs hgrow6.size)|(at_builtin;refine wpList_append_text rfl _ _ 25 9 rfl (w.heap.size+1) 5 i0 underlying25 underlying9 hi hz0 hz1 hz2 (.slice b6 (L5.length+k.size) c6) (L5++k.data.toList) rfl hown6 v rfl (by rw[aC,J6,Dq.out];unfold maxLen;omega) (by rw[aC,J6,Dq.out];omega) hs6 ?_;intro b7 c7 w7 jf iG))
  replace hb:=(hb.grown hgrow6 hs (λk hk=>(hown.lt k hk).1)).grown iG hs6 (λk hk=>(hown6.lt k hk).1);have hs7:w.heap.size+1<=w7.heap.size:=ay hs6 iG.size;have hI:OwnB w7 (w.heap.size+1) (.slice b7 (L5.length+k.size+v.size) c7) (body seq k.data.toList v.data.toList false):=by
   rw[show(L5++k.data.toList).length=L5.length+k.size by rw[aC,J6]] at jf;rw[show L5++k.data.toList++v.data.toList=body seq k.data.toList v.data.toList false by rw[<-HL.out];simp[body,J6]] at jf;exact jf
  have ry:(body seq k.data.toList v.data.toList false).length<=92:=by simp[body,I7,J6];omega
  clear jf iG hown6 hgrow6 hx hx6 FW hs6 hs;generalize Value.slice b7 (L5.length+k.size+v.size) c7=v7 at *;generalize body seq k.data.toList v.data.toList false=I at *;refine(QH v7 I w7 hI.bytes).mono ?_;rintro e w8 ⟨rfl,rfl⟩;have hwc:IntKind.u64.wrap ((crc I:Nat):Int)=((crc I:Nat):Int):=by rw[IntKind.wrap_u64];have:=Ew I;omega
  go_wp2_with fail
  refine(X8 _ w7.heap.size [] (crc I) 4 _ (World.ownsRow_nil _ _ _ _) (by omega) (by simp) (aj _)).mono ?_;rintro e w9 ⟨v9,rfl,jO,uJ⟩;rw[cO] at jO;generalize hC:be (crc I) 4=C at *;have sH:C.length=4:=by rw[<-hC,I7]
  have HC:=ah hC;clear hC;have EZ:=ah sH;clear sH;clear hwc;go_wp2_with (at_builtin;go_must (refine D8 rfl _ _ 25 rfl w7.heap.size 5 i0 (.int .u8 0) 1 1 underlying25 hi hz0 hz1 hz2 rfl (by omega) v9 C.length _ rfl jO v7 I.length (I.map dX) rfl (hI.bytes.ext uJ) (by simp) (EP _) (by rw[EZ.out];unfold maxLen;omega) (by rw[EZ.out];omega) uJ.size ?_);intro b10 c10 w10 kD jP nX;clear nX)
  go_ret2
  refine⟨_,rfl,?_,?_⟩
  ·unfold OwnB;have e1:(summed I).map dX=C.map dX++I.map dX:=by rw[<-bY,summed,HC.out]
   have e2:(summed I).length=C.length+I.length:=by rw[summed,HC.out,aC]
   rw[e1,e2];exact O4 kD (by omega)
  ·have h9:Below (w.heap.size+1) w7 w10:=(uJ.mono hs7).grown jP (ay hs7 uJ.size) (λk hk=>by have:=(jO.lt k hk).1;omega);exact(Below.alloc (Below.refl _ _) (aj _) _).trans ((hb.trans h9).mono (by omega))
end
section
open Go.RowKit Go.Lib Pl
def uY:Value:=.agg #[.int .u64 0,.string ⟨#[]⟩,.string ⟨#[]⟩,.bool false,.int .i64 0]
def O7:Option Rec->Value
 | none=>.tuple #[uY,.bool false]
 | some r=>.tuple #[.agg #[.int .u64 r.seq,.string ⟨r.key.toArray⟩,.string ⟨r.val.toArray⟩,.bool r.del,.int .i64 r.size],.bool true]
def c1V(r:Option Rec)(w:World)(e:Ending)(w':World):Prop:=e=.returned (O7 r)/\Ext w w'
theorem c3W(b:UInt8):num [b]=b.toNat:=by simp[num]
theorem H4{l:List UInt8}{k:Nat}(h:k<l.length):(l.drop k).take 1=[l[k]]:=by
 rw[gY h];rfl
theorem Bytes.at{w:World}{ad:Addr}{cap:Nat}{l:List UInt8}(h:Bytes w (.slice (some ad) l.length cap) l)(k:Nat)(hk:k<l.length):w.cell? (ad.add k)=some (.int .u8 (num ((l.drop k).take 1))):=by
 obtain⟨a',c,hv,h1,h2,h3⟩:=h;injection hv with ha;obtain⟨b,hb,hc⟩:=h3 (by intro e;simp at e;subst e;simp at hk);rw[hb] at ha;injection ha with ha;subst ha;rw[H4 hk,c3W];exact hc k _ (by rw[aZ,au hk];rfl)
theorem b0p(v:Value)(l:List UInt8)(w:World)(h:Bytes w v l):
 Calls prog 125 #[v] w (c1V (dec l) w):=by
 have HD:good l=false->dec l=none:=by intro h;unfold dec;rw[h];rfl
 obtain⟨a,cap,rfl,h1,h2,h3⟩:=id h;clear h3;by_cases c0:l.length<16
 ·have hd:dec l=none:=HD (by unfold good;rw[aI (by omega)];rfl);clear h;go_enter func125,ntmps125
  go_wp2;refine bodyPost_ret (v:=O7 none) ?_ rfl ⟨by first|rfl|rw[hd],?_⟩
  ·simp[results,results125,go_sem,O7,uY]
  ·exact((Ext.refl w).new _).new _
 obtain⟨ad,rfl⟩:∃ad,a=some ad:=by
  cases a with
  | none=>have:=h2.2 rfl;omega
  | some ad=>exact⟨ad,rfl⟩
 have hc12:w.cell? ⟨ad.block,ad.off+12,none⟩=some (.int .u8 (P6 l)):=h.at 12 (by omega);have hc13:w.cell? ⟨ad.block,ad.off+13,none⟩=some (.int .u8 (D9 l)):=h.at 13 (by omega);have HB:=ah h;clear h;have h16:16<=l.length:=by omega
 have nQ:D9 l<256:=O8 (l.drop 13) 1;have ob:P6 l<256:=O8 (l.drop 12) 1;have m9:H8 l<65536:=O8 (l.drop 14) 2;have hm1:num (l.take 4)<4294967296:=O8 l 4;have hwk:IntKind.i64.wrap (D9 l:Int)=(D9 l:Int):=IntWalk.i64_in _ (by omega);have hwv:IntKind.i64.wrap (H8 l:Int)=(H8 l:Int):=IntWalk.i64_in _ (by omega);have hsl:∀W:World,Ext w W->∀i j,0<i->i<=j->j<=l.length->i<cap->Bytes W (.slice (some ⟨ad.block,ad.off+i,none⟩) (j - i) (cap - i)) ((l.take j).drop i):=by
  intro W hW i j h0 hij hj hc;have:=(HB.out.ext hW).sliced i j hij hj;rw[if_neg (by omega)] at this;have e:(some ad).map (·.add i)=some ⟨ad.block,ad.off+i,none⟩:=by
   show some (ad.add i)=_;unfold Addr.add;rw[if_neg (by omega)]
  rw[e] at this;exact this
 have HS:=ah hsl;clear hsl;have hE0:Ext w ((w.alloc (.cells #[.int .u64 0,.string ⟨#[]⟩,.string ⟨#[]⟩,.bool false,.int .i64 0] 116)).alloc (.cells #[.int .u64 0,.string ⟨#[]⟩,.string ⟨#[]⟩,.bool false,.int .i64 0] 116)):=((Ext.refl w).new _).new _;have X:o8 ((w.alloc (.cells #[.int .u64 0,.string ⟨#[]⟩,.string ⟨#[]⟩,.bool false,.int .i64 0] 116)).alloc (.cells #[.int .u64 0,.string ⟨#[]⟩,.string ⟨#[]⟩,.bool false,.int .i64 0] 116)) w.heap.size 116 #[.int .u64 0,.string ⟨#[]⟩,.string ⟨#[]⟩,.bool false,.int .i64 0]:=(o8.new _ _ rfl).alloc _;have Y:o8 ((w.alloc (.cells #[.int .u64 0,.string ⟨#[]⟩,.string ⟨#[]⟩,.bool false,.int .i64 0] 116)).alloc (.cells #[.int .u64 0,.string ⟨#[]⟩,.string ⟨#[]⟩,.bool false,.int .i64 0] 116)) (w.heap.size+1) 116 #[.int .u64 0,.string ⟨#[]⟩,.string ⟨#[]⟩,.bool false,.int .i64 0]:=o8.new _ _ (by simp);have XO:=hE0.cell hc12;have XM:=hE0.cell hc13;go_enter func125,ntmps125
 go_wp2_with fail
 refine(V9 _ ((l.take 16).drop 14) _ (HS.out _ hE0 14 16 (by omega) (by omega) (by omega) (by omega)) (by simp;omega)).mono ?_;rintro e W ⟨rfl,hw⟩;rw[hw] at hE0 X Y XO XM;clear hw;have ev:num ((l.take 16).drop 14)=H8 l:=by unfold H8;rw[fG]
 rw[ev];clear ev;have kO:=Y.cell 0;have KR:=Y.cell 1;have KQ:=Y.cell 2;have KP:=Y.cell 3;have yc4:=Y.cell 4;have xc0:=X.cell 0;have xf0:=X.free 0;have kL:=X.cell 1;have xf1:=X.free 1;have lZ:=X.cell 2;have KU:=X.free 2;have m_:=X.cell 3;have KT:=X.free 3;have xK:=X.cell 4;have xf4:=X.free 4;by_cases c1:l.length<16+D9 l+H8 l
 ·have hd:dec l=none:=HD (by unfold good;rw[aI (by omega)];rfl);go_wp2;refine bodyPost_ret (v:=O7 none) ?_ rfl ⟨by first|rfl|rw[hd],?_⟩
  ·simp[results,results125,go_sem,O7,uY,xc0,kL,lZ,m_,xK]
  ·repeat' refine Ext.iJ ?_ (by simp)
   exact hE0
 have hcap:16+D9 l+H8 l<=cap:=by omega
 go_wp2_with fail
 refine(QH _ ((l.take (16+D9 l+H8 l)).drop 4) _ (HS.out _ hE0 4 (16+D9 l+H8 l) (by omega) (by omega) (by omega) (by omega))).mono ?_;rintro e W' ⟨rfl,rfl⟩;have hq:Bytes W (.slice (some ad) 4 cap) (l.take 4):=by
  have:=(HB.out.ext hE0).sliced 0 4 (by omega) (by omega);rw[if_neg (by omega)] at this;exact this
 go_wp2_with fail
 refine(V9 _ (l.take 4) _ hq (by simp;omega)).mono ?_;rintro e W' ⟨rfl,rfl⟩;have hwc:IntKind.u64.wrap (crc ((l.take (16+D9 l+H8 l)).drop 4):Int)=(crc ((l.take (16+D9 l+H8 l)).drop 4):Int):=by
  have:=Ew ((l.take (16+D9 l+H8 l)).drop 4);rw[IntKind.wrap_u64];omega
 by_cases hcr:crc ((l.take (16+D9 l+H8 l)).drop 4)=num (l.take 4)
 case neg=>
  have oK:((num (l.take 4):Int) != (crc ((l.take (16+D9 l+H8 l)).drop 4):Int))=true:=by rw[bne,bn.2 (by omega)];rfl
  have hd:dec l=none:=HD (by unfold good;rw[aI hcr];simp);go_wp2;refine bodyPost_ret (v:=O7 none) ?_ rfl ⟨by first|rfl|rw[hd],?_⟩
  ·simp[results,results125,go_sem,O7,uY,xc0,kL,lZ,m_,xK]
  ·repeat' refine Ext.iJ ?_ (by simp)
   exact hE0
 have oK:((num (l.take 4):Int) != (crc ((l.take (16+D9 l+H8 l)).drop 4):Int))=false:=by rw[bne,dP.2 (by omega)];rfl
 by_cases c2:1<P6 l
 ·have hd:dec l=none:=HD (by unfold good;rw[show decide (P6 l<=1)=false from aI (by omega)];simp);go_wp2;refine bodyPost_ret (v:=O7 none) ?_ rfl ⟨by first|rfl|rw[hd],?_⟩
  ·simp[results,results125,go_sem,O7,uY,xc0,kL,lZ,m_,xK]
  ·repeat' refine Ext.iJ ?_ (by simp)
   exact hE0
 by_cases c3:D9 l<1
 ·have hd:dec l=none:=HD (by unfold good;rw[show decide (1<=D9 l)=false from aI (by omega)];simp);have hk0:((D9 l:Int)==0)=true:=dP.2 (by omega);go_wp2;refine bodyPost_ret (v:=O7 none) ?_ rfl ⟨by first|rfl|rw[hd],?_⟩
  ·simp[results,results125,go_sem,O7,uY,xc0,kL,lZ,m_,xK]
  ·repeat' refine Ext.iJ ?_ (by simp)
   exact hE0
 have hk0:((D9 l:Int)==0)=false:=bn.2 (by omega);by_cases c4:16<D9 l
 ·have hd:dec l=none:=HD (by unfold good;rw[show decide (D9 l<=16)=false from aI (by omega)];simp);go_wp2;refine bodyPost_ret (v:=O7 none) ?_ rfl ⟨by first|rfl|rw[hd],?_⟩
  ·simp[results,results125,go_sem,O7,uY,xc0,kL,lZ,m_,xK]
  ·repeat' refine Ext.iJ ?_ (by simp)
   exact hE0
 by_cases c5:64<H8 l
 ·have hd:dec l=none:=HD (by unfold good;rw[show decide (H8 l<=64)=false from aI (by omega)];simp);go_wp2;refine bodyPost_ret (v:=O7 none) ?_ rfl ⟨by first|rfl|rw[hd],?_⟩
  ·simp[results,results125,go_sem,O7,uY,xc0,kL,lZ,m_,xK]
  ·repeat' refine Ext.iJ ?_ (by simp)
   exact hE0
 by_cases c6:P6 l=1/\0<H8 l
 ·have hd:dec l=none:=HD (by unfold good;rw[show decide (P6 l=1)=true from aG c6.1,show decide (0<H8 l)=true from aG c6.2];simp);have hf1:((P6 l:Int)==1)=true:=dP.2 (by omega);have hv0:=c6.2;go_wp2;refine bodyPost_ret (v:=O7 none) ?_ rfl ⟨by first|rfl|rw[hd],?_⟩
  ·simp[results,results125,go_sem,O7,uY,xc0,kL,lZ,m_,xK]
  ·repeat' refine Ext.iJ ?_ (by simp)
   exact hE0
 by_cases hf:P6 l=1
 ·have hv0:¬0<H8 l:=λh=>c6 ⟨hf,h⟩;have hf1:((P6 l:Int)==1)=true:=dP.2 (by omega);have hdec:dec l=some ⟨num ((l.drop 4).take 8),(l.drop 16).take (D9 l),(l.drop (16+D9 l)).take (H8 l),true,16+D9 l+H8 l⟩:=by
   unfold dec;rw[if_pos (by unfold good;rw[aG (show 16+D9 l+H8 l<=l.length by omega),aG hcr,aG (show P6 l<=1 by omega),aG (show 1<=D9 l by omega),aG (show D9 l<=16 by omega),aG (show H8 l<=64 by omega),aI (show ¬0<H8 l by omega),IC];rfl)];simp[hf]
  go_wp2_with fail
  refine(V9 _ ((l.take 12).drop 4) _ (HS.out _ hE0 4 12 (by omega) (by omega) (by omega) (by omega)) (by simp;omega)).mono ?_;rintro e W' ⟨rfl,rfl⟩;go_wp2_with fail
  have hE1:Ext w W.drew:=Ext.trans hE0 (Ext.drewN W 1);have hq1:=U0 (HS.out _ hE1 16 (16+D9 l) (by omega) (by omega) (by omega) (by omega));have hq1':=U0 (HS.out _ hE1 16 (16+D9 l) (by omega) (by omega) (by omega) (by omega));rw[show 16+D9 l - 16=D9 l by omega] at hq1;have hq2:=U0 ((HB.out.ext hE1).sliced (16+D9 l) (16+D9 l+H8 l) (by omega) (by omega));by_cases hcc:cap=16+D9 l
  ·rw[if_pos hcc] at hq2;have tC:=hq2;rw[show 16+D9 l+H8 l - (16+D9 l)=H8 l by omega] at tC;have qn:(cap=16+D9 l)=True:=eq_true hcc;clear hcc;go_region
   go_wp2;all_goals
    refine bodyPost_ret (v:=O7 (some ⟨num ((l.drop 4).take 8),(l.drop 16).take (D9 l),(l.drop (16+D9 l)).take (H8 l),true,16+D9 l+H8 l⟩)) ?_ rfl ⟨?_,?_⟩
    ·simp[results,results125,go_sem,O7,uY,xc0,kL,lZ,m_,xK,fG]
    ·first|rfl|rw[hdec]
    ·refine Ext.trans ?_ (Ext.drewN _ 1);repeat' refine Ext.iJ ?_ (by simp)
     exact hE0
  ·rw[if_neg hcc] at hq2;have e:(some ad).map (·.add (16+D9 l))=some (ad.add (16+D9 l)):=rfl;rw[e] at hq2;have tC:=hq2;rw[show 16+D9 l+H8 l - (16+D9 l)=H8 l by omega] at tC;go_region
   go_wp2;all_goals
    refine bodyPost_ret (v:=O7 (some ⟨num ((l.drop 4).take 8),(l.drop 16).take (D9 l),(l.drop (16+D9 l)).take (H8 l),true,16+D9 l+H8 l⟩)) ?_ rfl ⟨?_,?_⟩
    ·simp[results,results125,go_sem,O7,uY,xc0,kL,lZ,m_,xK,fG]
    ·first|rfl|rw[hdec]
    ·refine Ext.trans ?_ (Ext.drewN _ 1);repeat' refine Ext.iJ ?_ (by simp)
     exact hE0
 ·have hf1:((P6 l:Int)==1)=false:=bn.2 (by omega);have hdec:dec l=some ⟨num ((l.drop 4).take 8),(l.drop 16).take (D9 l),(l.drop (16+D9 l)).take (H8 l),false,16+D9 l+H8 l⟩:=by
   unfold dec;rw[if_pos (by unfold good;rw[aG (show 16+D9 l+H8 l<=l.length by omega),aG hcr,aG (show P6 l<=1 by omega),aG (show 1<=D9 l by omega),aG (show D9 l<=16 by omega),aG (show H8 l<=64 by omega),aI hf];rfl)];simp[hf]
  go_wp2_with fail
  refine(V9 _ ((l.take 12).drop 4) _ (HS.out _ hE0 4 12 (by omega) (by omega) (by omega) (by omega)) (by simp;omega)).mono ?_;rintro e W' ⟨rfl,rfl⟩;go_wp2_with fail
  have hE1:Ext w W.drew:=Ext.trans hE0 (Ext.drewN W 1);have hq1:=U0 (HS.out _ hE1 16 (16+D9 l) (by omega) (by omega) (by omega) (by omega));have hq1':=U0 (HS.out _ hE1 16 (16+D9 l) (by omega) (by omega) (by omega) (by omega));rw[show 16+D9 l - 16=D9 l by omega] at hq1;have hq2:=U0 ((HB.out.ext hE1).sliced (16+D9 l) (16+D9 l+H8 l) (by omega) (by omega));by_cases hcc:cap=16+D9 l
  ·rw[if_pos hcc] at hq2;have tC:=hq2;rw[show 16+D9 l+H8 l - (16+D9 l)=H8 l by omega] at tC;have qn:(cap=16+D9 l)=True:=eq_true hcc;clear hcc;go_region
   go_wp2;all_goals
    refine bodyPost_ret (v:=O7 (some ⟨num ((l.drop 4).take 8),(l.drop 16).take (D9 l),(l.drop (16+D9 l)).take (H8 l),false,16+D9 l+H8 l⟩)) ?_ rfl ⟨?_,?_⟩
    ·simp[results,results125,go_sem,O7,uY,xc0,kL,lZ,m_,xK,fG]
    ·first|rfl|rw[hdec]
    ·refine Ext.trans ?_ (Ext.drewN _ 1);repeat' refine Ext.iJ ?_ (by simp)
     exact hE0
  ·rw[if_neg hcc] at hq2;have e:(some ad).map (·.add (16+D9 l))=some (ad.add (16+D9 l)):=rfl;rw[e] at hq2;have tC:=hq2;rw[show 16+D9 l+H8 l - (16+D9 l)=H8 l by omega] at tC;go_region
   go_wp2;all_goals
    refine bodyPost_ret (v:=O7 (some ⟨num ((l.drop 4).take 8),(l.drop 16).take (D9 l),(l.drop (16+D9 l)).take (H8 l),false,16+D9 l+H8 l⟩)) ?_ rfl ⟨?_,?_⟩
    ·simp[results,results125,go_sem,O7,uY,xc0,kL,lZ,m_,xK,fG]
    ·first|rfl|rw[hdec]
    ·refine Ext.trans ?_ (Ext.drewN _ 1);repeat' refine Ext.iJ ?_ (by simp)
     exact hE0
end
end Go.Proofs.YtgpbhjjajpbeeaaGreatDoor
