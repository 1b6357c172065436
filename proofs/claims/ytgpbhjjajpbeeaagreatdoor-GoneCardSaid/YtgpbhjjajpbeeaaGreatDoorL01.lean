/- A part of what the last file proves. -/
import Derived.Test.YtgpbhjjajpbeeaaGreatDoorProg
import Derived.WalkKit
import Derived.WalkSpells
import Derived.WalkLawsBesides
import Derived.Lib.Hide
import Derived.OneCell
import Derived.Lib.Strings
import Derived.Lib.AppendStr
import Derived.Laws.CopyOwn
import Derived.Deep.QuietTactic
import Derived.BigQuiet
import Derived.Deep.RegionHeld3
import Derived.Deep.AppendLies
import Derived.Deep.RegionLaw
set_option linter.all false
set_option maxRecDepth 100000
set_option maxHeartbeats 2000000
namespace Go.Proofs.YtgpbhjjajpbeeaaGreatDoor
namespace Pl
def a1j(c:Nat):Nat:=(c/2) ^^^ (if c%2=1 then 3988292384 else 0)
def a0i:Nat->Nat->Nat
 | 0,c=>c
 | n+1,c=>a0i n (a1j c)
def a1M(c:Nat)(b:UInt8):Nat:=a0i 8 (c ^^^ b.toNat)
def Y3(c:Nat)(l:List UInt8):Nat:=l.foldl a1M c
def crc(l:List UInt8):Nat:=Y3 4294967295 l ^^^ 4294967295
theorem a9i{a b:Nat}(ha:a<4294967296)(hb:b<4294967296):a ^^^ b<4294967296:=
 Nat.xor_lt_two_pow (n:=32) ha hb
theorem b79{c:Nat}(h:c<4294967296):a1j c<4294967296:=by
 unfold a1j;split<;>exact a9i (by omega) (by omega)
theorem a5k(n:Nat):∀{c:Nat},c<4294967296->a0i n c<4294967296:=by
 induction n with
 | zero=>intro c h;exact h
 | succ n ih=>intro c h;exact ih (b79 h)
theorem a5S(n:Nat):∀c:Nat,a0i (n+1) c=a1j (a0i n c):=by
 induction n with
 | zero=>intro c;rfl
 | succ n ih=>intro c;exact ih (a1j c)
theorem b44{c:Nat}(h:c<4294967296)(b:UInt8):a1M c b<4294967296:=
 a5k 8 (a9i h (by have:=b.toNat_lt;omega))
theorem a2i(l:List UInt8):∀{c:Nat},c<4294967296->Y3 c l<4294967296:=by
 induction l with
 | nil=>intro c h;exact h
 | cons b l ih=>intro c h;exact ih (b44 h b)
theorem a4e(l:List UInt8):crc l<4294967296:=a9i (a2i l (by omega)) (by omega)
theorem a5T(c:Nat)(l:List UInt8)(b:UInt8):Y3 c (l++[b])=a1M (Y3 c l) b:=by
 simp[Y3]
theorem take_snoc{α:Type}(l:List α)(k:Nat)(h:k<l.length):l.take (k+1)=l.take k++[l[k]]:=by
 rw[List.take_succ_eq_append_getElem h]
def be(n:Nat):Nat->List UInt8
 | 0=>[]
 | k+1=>UInt8.ofNat (n/256^k)::be n k
theorem H7(n k:Nat):(be n k).length=k:=by
 induction k with
 | zero=>rfl
 | succ k ih=>simp[be,ih]
theorem c27(n j:Nat):((n:Int)/2^(8*(j:Int)).toNat)%256=((UInt8.ofNat (n/256^j)).toNat:Int):=by
 have h1:(8*(j:Int)).toNat=8*j:=by omega
 have h2:(2:Nat)^(8*j)=256^j:=by rw[Nat.pow_mul]
 rw[h1,show((2:Int)^(8*j))=((2^(8*j):Nat):Int) by push_cast;rfl,h2];simp
def body(seq:Nat)(k v:List UInt8)(d:Bool):List UInt8:=be seq 8++be (if d then 1 else 0) 1++be k.length 1++be v.length 2++k++v
def summed(l:List UInt8):List UInt8:=be (crc l) 4++l
def num(l:List UInt8):Nat:=l.foldl (fun n b=>n*256+b.toNat) 0
theorem a9j(l:List UInt8)(b:UInt8):num (l++[b])=num l*256+b.toNat:=by simp[num]
theorem c0Q(l:List UInt8):∀n,l.foldl (fun n b=>n*256+b.toNat) n=n*256^l.length+num l:=by
 induction l with
 | nil=>intro n;simp[num]
 | cons b l ih=>
  intro n;simp only[List.foldl_cons,num];rw[ih,ih (0*256+b.toNat)];simp only[List.length_cons,Nat.pow_succ];rw[Nat.add_mul,Nat.zero_mul,Nat.zero_add,Nat.add_assoc,Nat.mul_assoc,Nat.mul_comm 256]
theorem c0R(b:UInt8)(l:List UInt8):num (b::l)=b.toNat*256^l.length+num l:=by
 have:=c0Q l (0*256+b.toNat);simpa [num] using this
theorem b1V(l:List UInt8):num l<256^l.length:=by
 induction l with
 | nil=>simp[num]
 | cons b l ih=>
  rw[c0R,List.length_cons,Nat.pow_succ];have:=b.toNat_lt;have h1:b.toNat*256^l.length<=255*256^l.length:=Nat.mul_le_mul_right _ (by omega);omega
theorem c0S(n j:Nat):((n:Int)/2^(8*j))%256=((UInt8.ofNat (n/256^j)).toNat:Int):=by
 have:=c27 n j;rw[show(8*(j:Int)).toNat=8*j by omega] at this;exact this
structure Rec where
 seq:Nat
 key:List UInt8
 val:List UInt8
 del:Bool
 size:Nat
def D8(l:List UInt8):Nat:=num ((l.drop 13).take 1)
def H5(l:List UInt8):Nat:=num ((l.drop 14).take 2)
def P7(l:List UInt8):Nat:=num ((l.drop 12).take 1)
def good(l:List UInt8):Bool:=
 decide (16+D8 l+H5 l<=l.length)&&(decide (P7 l<=1)&&(decide (1<=D8 l)&&(decide (D8 l<=16)&&(decide (H5 l<=64)&&(!(decide (P7 l=1)&&decide (0<H5 l)) &&
  decide (crc ((l.take (16+D8 l+H5 l)).drop 4)=num (l.take 4)))))))
def dec(l:List UInt8):Option Rec:=
 if good l=true then some ⟨num ((l.drop 4).take 8),(l.drop 16).take (D8 l),(l.drop (16+D8 l)).take (H5 l),decide (P7 l=1),16+D8 l+H5 l⟩ else none
def rdN(s:List UInt8×Bool)(n:Nat):Nat×(List UInt8×Bool):=
 if s.2=true\/s.1.length<n then(0,(s.1,true)) else(num (s.1.take n),(s.1.drop n,false))
def rdT(s:List UInt8×Bool)(n:Nat):List UInt8×(List UInt8×Bool):=
 if s.2=true\/s.1.length<n then([],(s.1,true)) else(s.1.take n,(s.1.drop n,false))
theorem a0z(x:List UInt8)(n:Nat):rdN (x,true) n=(0,(x,true)):=by simp[rdN]
theorem b1W(x:List UInt8)(n:Nat):rdT (x,true) n=([],(x,true)):=by simp[rdT]
theorem a0A{x:List UInt8}{n:Nat}(h:x.length<n):rdN (x,false) n=(0,(x,true)):=by simp[rdN,h]
theorem b0P{x:List UInt8}{n:Nat}(h:x.length<n):rdT (x,false) n=([],(x,true)):=by simp[rdT,h]
theorem a3s{x:List UInt8}{n:Nat}(h:n<=x.length):rdN (x,false) n=(num (x.take n),(x.drop n,false)):=by
 have:¬x.length<n:=by omega
 simp[rdN,this]
theorem c0T{x:List UInt8}{n:Nat}(h:n<=x.length):rdT (x,false) n=(x.take n,(x.drop n,false)):=by
 have:¬x.length<n:=by omega
 simp[rdT,this]
theorem O3(l:List UInt8)(k:Nat):num (l.take k)<256^k:=
 Nat.lt_of_lt_of_le (b1V _) (Nat.pow_le_pow_right (by omega) (by rw[List.length_take];omega))
theorem c41{l:List UInt8}{m1 m2 fl k v:Nat}{key val:List UInt8}{s1 s2 s3 s4 s5 s6 s7:List UInt8×Bool}
 (e1:(m1,s1)=rdN (l,false) 4)(e2:(m2,s2)=rdN s1 8)(e3:(fl,s3)=rdN s2 1)(e4:(k,s4)=rdN s3 1)(e5:(v,s5)=rdN s4 2)(e6:(key,s6)=rdT s5 k)(e7:(val,s7)=rdT s6 v):
 k<256/\v<65536/\((s7.2=true/\l.length<16+D8 l+H5 l)\/(s7.2=false/\16+D8 l+H5 l<=l.length/\m1=num (l.take 4)/\m2=num ((l.drop 4).take 8)/\fl=P7 l/\k=D8 l/\v=H5 l/\
  key=(l.drop 16).take k/\val=(l.drop (16+k)).take v)):=by
 have bad7:∀{x:List UInt8},s5=(x,true)->k<256->v<65536->l.length<16->k<256/\v<65536/\((s7.2=true/\l.length<16+D8 l+H5 l)\/(s7.2=false/\16+D8 l+H5 l<=l.length/\m1=num (l.take 4)/\m2=num ((l.drop 4).take 8)/\fl=P7 l/\k=D8 l/\v=H5 l/\
  key=(l.drop 16).take k/\val=(l.drop (16+k)).take v)):=by
  intro x hx hk hv hl;subst hx;rw[b1W] at e6;injection e6 with _ e6;subst e6;rw[b1W] at e7;injection e7 with _ e7;subst e7;exact⟨hk,hv,.inl ⟨rfl,by omega⟩⟩
 by_cases h4:l.length<4
 ·rw[a0A h4] at e1;injection e1 with _ e1;subst e1;rw[a0z] at e2;injection e2 with _ e2;subst e2;rw[a0z] at e3;injection e3 with _ e3;subst e3;rw[a0z] at e4;injection e4 with e4' e4;subst e4;subst e4';rw[a0z] at e5;injection e5 with e5' e5;subst e5';exact bad7 e5 (by omega) (by omega) (by omega)
 rw[a3s (by omega)] at e1;injection e1 with f1 e1;subst e1;by_cases h12:l.length<12
 ·rw[a0A (by simp;omega)] at e2;injection e2 with _ e2;subst e2;rw[a0z] at e3;injection e3 with _ e3;subst e3;rw[a0z] at e4;injection e4 with e4' e4;subst e4;subst e4';rw[a0z] at e5;injection e5 with e5' e5;subst e5';exact bad7 e5 (by omega) (by omega) (by omega)
 rw[a3s (by simp;omega)] at e2;injection e2 with f2 e2;subst e2;by_cases h13:l.length<13
 ·rw[a0A (by simp;omega)] at e3;injection e3 with _ e3;subst e3;rw[a0z] at e4;injection e4 with e4' e4;subst e4;subst e4';rw[a0z] at e5;injection e5 with e5' e5;subst e5';exact bad7 e5 (by omega) (by omega) (by omega)
 rw[a3s (by simp;omega)] at e3;injection e3 with f3 e3;subst e3;by_cases h14:l.length<14
 ·rw[a0A (by simp;omega)] at e4;injection e4 with e4' e4;subst e4;subst e4';rw[a0z] at e5;injection e5 with e5' e5;subst e5';exact bad7 e5 (by omega) (by omega) (by omega)
 rw[a3s (by simp;omega)] at e4;injection e4 with f4 e4;subst e4;have hk:k<256:=by rw[f4];exact O3 _ 1
 by_cases h16:l.length<16
 ·rw[a0A (by simp;omega)] at e5;injection e5 with e5' e5;subst e5';exact bad7 e5 hk (by omega) (by omega)
 rw[a3s (by simp;omega)] at e5;injection e5 with f5 e5;subst e5;have hv:v<65536:=by rw[f5];exact O3 _ 2
 simp only[List.drop_drop,Nat.reduceAdd] at *;have gk:k=D8 l:=f4;have gv:v=H5 l:=f5;refine⟨hk,hv,?_⟩;by_cases hk2:l.length<16+k
 ·rw[b0P (by simp;omega)] at e6;injection e6 with _ e6;subst e6;rw[b1W] at e7;injection e7 with _ e7;subst e7;exact .inl ⟨rfl,by omega⟩
 rw[c0T (by simp;omega)] at e6;injection e6 with f6 e6;subst e6;by_cases hv2:l.length<16+k+v
 ·rw[b0P (by simp;omega)] at e7;injection e7 with _ e7;subst e7;exact .inl ⟨rfl,by omega⟩
 rw[c0T (by simp;omega)] at e7;injection e7 with f7 e7;subst e7;exact .inr ⟨rfl,by omega,f1,f2,f3,gk,gv,f6,by rw[f7,List.drop_drop]⟩
theorem b0Q(b:UInt8):b.toNat<256:=b.toNat_lt
end Pl
section
open Go.RowKit Go.Lib
theorem I8(s:ByteArray):s.data.toList.length=s.size:=by rw[Array.length_toList];rfl
theorem a5H(s:ByteArray):s.toList.isEmpty=decide (s.size=0):=by
 rw[Lib.toList_data,<-I8];cases s.data.toList<;>simp
def a2x(w:World)(a:Addr)(xs:List Value):Prop:=∀i x,xs[i]?=some x->w.cell? (a.add i)=some x
def a0m(w:World)(v:Value)(n:Nat)(xs:List Value):Prop:=
 ∃(a:Option Addr)(cap:Nat),v=.slice a n cap/\n<=cap/\(cap<=9223372036854775807/\(a=none->cap=0))/\(xs≠[]->∃b,a=some b/\a2x w b xs)
def byteV(b:UInt8):Value:=.int .u8 b.toNat
theorem a0S(l:List UInt8):∀u∈l.map byteV,u.oneCell'=true:=by
 intro u hu;obtain⟨b,_,rfl⟩:=List.mem_map.1 hu;rfl
def Bytes(w:World)(v:Value)(l:List UInt8):Prop:=a0m w v l.length (l.map byteV)
def Ints(w:World)(v:Value)(l:List Int):Prop:=a0m w v l.length (l.map (Value.int .i64))
abbrev Ext(w w':World):Prop:=Below w.heap.size w w'
theorem Ext.refl(w:World):Ext w w:=Below.refl _ _
theorem Ext.trans{a b c:World}(h:Ext a b)(k:Ext b c):Ext a c:=Below.trans h (k.mono h.size)
theorem Ext.drewN(w:World)(n:Nat):Ext w (w.drewN n):=by
 induction n with
 | zero=>exact Ext.refl w
 | succ n ih=>exact Below.drew ih
theorem Ext.cell{w w':World}(h:Ext w w'){a:Addr}{v:Value}(hc:w.cell? a=some v):w'.cell? a=some v:=
 (Below.cell h (World.block_lt_of_cell? w a hc)).trans hc
theorem Ext.new{w w':World}(h:Ext w w')(o:Obj):Ext w (w'.alloc o):=Below.alloc h h.size o
theorem a2x.ext{w w':World}(h:Ext w w'){a:Addr}{xs:List Value}(hc:a2x w a xs):a2x w' a xs:=
 fun i x hx=>h.cell (hc i x hx)
theorem a0m.ext{w w':World}(h:Ext w w'){v:Value}{n:Nat}{xs:List Value}(hs:a0m w v n xs):a0m w' v n xs:=by
 obtain⟨a,cap,rfl,h1,h2,h3⟩:=hs;exact⟨a,cap,rfl,h1,h2,fun hx=>let ⟨b,hb,hc⟩:=h3 hx;⟨b,hb,hc.ext h⟩⟩
theorem Bytes.ext{w w':World}(h:Ext w w'){v:Value}{l:List UInt8}(hs:Bytes w v l):Bytes w' v l:=a0m.ext h hs
theorem Ints.ext{w w':World}(h:Ext w w'){v:Value}{l:List Int}(hs:Ints w v l):Ints w' v l:=a0m.ext h hs
theorem Bytes.open{w:World}{v:Value}{l:List UInt8}(h:Bytes w v l):
 ∃(a:Option Addr)(cap:Nat),v=.slice a l.length cap/\l.length<=cap/\cap<=9223372036854775807/\
  ∀i,(hi:i<l.length)->∃b,a=some b/\w.cell? (b.add i)=some (.int .u8 (l[i]).toNat):=by
 obtain⟨a,cap,rfl,h1,h2,h3⟩:=h;refine⟨a,cap,rfl,h1,h2.1,fun i hi=>?_⟩;obtain⟨b,hb,hc⟩:=h3 (by intro e;simp at e;subst e;simp at hi);exact⟨b,hb,hc i _ (by simp[hi,byteV])⟩
theorem Ints.open{w:World}{v:Value}{l:List Int}(h:Ints w v l):
 ∃(a:Option Addr)(cap:Nat),v=.slice a l.length cap/\l.length<=cap/\cap<=9223372036854775807/\
  ∀i,(hi:i<l.length)->∃b,a=some b/\w.cell? (b.add i)=some (.int .i64 l[i]):=by
 obtain⟨a,cap,rfl,h1,h2,h3⟩:=h;refine⟨a,cap,rfl,h1,h2.1,fun i hi=>?_⟩;obtain⟨b,hb,hc⟩:=h3 (by intro e;simp at e;subst e;simp at hi);exact⟨b,hb,hc i _ (by simp[hi])⟩
theorem a4q:(Tryz.prog.info? 5).map (fun i=>(i.zero,i.size,i.bytes))=some (some (.int .u8 0),1,1):=by kernel_rfl
theorem a8T:(Tryz.prog.info? 3).map (fun i=>(i.zero,i.size,i.bytes))=some (some (.int .i64 0),1,8):=by kernel_rfl
theorem ownsRow_ne{w:World}{base:Nat}{e t:TypeId}{size:Nat}{v:Value}{n:Nat}{xs:List Value}(h:w.ownsRow base e size v n xs)
 {b:Nat}{cs:Array Value}{fr:Nat×Nat}(hb:w.heap[b]?=some (.cells cs t fr))(ht:t≠e):v.ownBlock≠some b:=by
 rcases h.2 with⟨rfl,_⟩|⟨g,cap,cur,rfl,hg,hh,r⟩
 ·simp[Value.ownBlock]
 ·intro e';simp only[Value.ownBlock,Option.some.injEq] at e';subst e';rw[hb] at hh;injection hh with hh;injection hh with _ h2 _;exact ht h2
theorem ownsRow_form{w:World}{base:Nat}{e:TypeId}{size:Nat}{v:Value}{n:Nat}{xs:List Value}(h:w.ownsRow base e size v n xs):∃(a:Option Addr)(c:Nat),v=.slice a n c:=by
 rcases h.2 with⟨rfl,rfl⟩|⟨g,cap,cur,rfl,r⟩
 ·exact⟨none,0,rfl⟩
 ·exact⟨_,_,rfl⟩
theorem a8U(s:ByteArray):strCells s=s.data.toList.map byteV:=rfl
def OwnB(w:World)(B:Nat)(v:Value)(l:List UInt8):Prop:=w.ownsRow B 5 1 v l.length (l.map byteV)
theorem OwnB.bytes{w:World}{B:Nat}{v:Value}{l:List UInt8}(h:OwnB w B v l):Bytes w v l:=by
 have hh:=h;rcases h.2 with⟨rfl,h0⟩|⟨g,cap,cur,rfl,hb,hg,h1,h2,h3,h4⟩
 ·have:l=[]:=List.eq_nil_of_length_eq_zero h0;subst this;exact⟨none,0,rfl,by simp,⟨by omega,fun _=>rfl⟩,by simp⟩
 ·exact⟨some ⟨g,0,none⟩,cap,rfl,h1,⟨by unfold maxLen at h2;omega,fun h=>by cases h⟩,fun _=>⟨_,rfl,fun i x hx=>hh.cells rfl i x hx⟩⟩
theorem J8{w:World}{base base':Nat}{e:TypeId}{size:Nat}{v:Value}{n:Nat}{xs:List Value}(h:w.ownsRow base e size v n xs)(hb:base'<=base):w.ownsRow base' e size v n xs:=by
 obtain⟨h1,h2⟩:=h;refine⟨h1,?_⟩;rcases h2 with h2|⟨g,cap,cur,rfl,hg,hh,r⟩
 ·exact Or.inl h2
 ·exact Or.inr ⟨g,cap,cur,rfl,Nat.le_trans hb hg,hh,r⟩
theorem ownsRow_below{w w':World}{base:Nat}{e:TypeId}{size:Nat}{v:Value}{n:Nat}{xs:List Value}(h:w.ownsRow base e size v n xs)
 (hb:Below w.heap.size w w'):w'.ownsRow base e size v n xs:=by
 obtain⟨h1,h2⟩:=h;refine⟨h1,?_⟩;rcases h2 with h2|⟨g,cap,cur,rfl,hg,hh,r⟩
 ·exact Or.inl h2
 ·exact Or.inr ⟨g,cap,cur,rfl,hg,(hb.block g (lt_of_block hh)).trans hh,r⟩
theorem a2x.drop{w:World}{a:Addr}{xs:List Value}(h:a2x w a xs)(k:Nat):a2x w (a.add k) (xs.drop k):=by
 intro i x hx;have e:(a.add k).add i=a.add (k+i):=by
  unfold Addr.add;split<;>split<;>(try split)<;>simp_all<;>omega
 rw[e];exact h _ _ (by rw[<-List.getElem?_drop];exact hx)
theorem Bytes.sliced{w:World}{a:Option Addr}{n cap:Nat}{l:List UInt8}(h:Bytes w (.slice a n cap) l)(i j:Nat)(hij:i<=j)(hj:j<=l.length):
 Bytes w (.slice (if cap=i then a else a.map (·.add i)) (j - i) (cap - i)) ((l.take j).drop i):=by
 obtain⟨a',c,hv,h1,h2,h3⟩:=h;injection hv with ha hn hc;subst ha;subst hc;have hlen:((l.take j).drop i).length=j - i:=by rw[List.length_drop,List.length_take];omega
 unfold Bytes;rw[hlen];refine⟨_,_,rfl,by omega,⟨by omega,fun hn=>?_⟩,fun hx=>?_⟩
 ·have:a=none:=by
   cases a with
   | none=>rfl
   | some b=>split at hn<;>simp at hn
  have:=h2.2 this;omega
 have hne:l.map byteV≠[]:=by intro e;apply hx;simp at e;subst e;simp
 obtain⟨b,hb,hcell⟩:=h3 hne;subst hb;by_cases hci:cap=i
 ·exfalso;apply hx;apply List.eq_nil_of_length_eq_zero;rw[List.length_map,hlen];omega
 ·refine⟨b.add i,by simp[hci],?_⟩;intro m x hm;refine a2x.drop hcell i m x ?_;rw[List.getElem?_drop] at *;simp only[List.getElem?_map,List.getElem?_take,List.getElem?_drop] at hm⊢;split at hm
  ·exact hm
  ·simp at hm
theorem a3V{P:Program}(w:World)(base:Nat)(t ty e:TypeId)(i:TypeInfo)(z:Value)(size bytes:Nat)(ht:P.underlying t=some (.slice e))(hi:P.info? e=some i)(hz:i.zero=some z)
 (hsize:i.size=size)(hby:i.bytes=bytes)(hzs:z.cells.size=size)(hsz:0<size)
 (v:Value)(n:Nat)(xs:List Value)(hown:w.ownsRow base e size v n xs)(x:Value)(m:Nat)(news:List Value)(hx:a0m w x m news)(hl:news.length=m*size)(h1:∀u∈news,u.oneCell'=true)
 (h63:n+m<=maxLen)(hbytes:(n+m)*bytes<=140737488355328)(hbase:base<=w.heap.size):
 ∃v' w',(Builtin.append_ #[t,t] ty #[v,x]).run P w=.ok v' w'/\w'.ownsRow base e size v' (n+m) (xs++news)/\w.grownBy w' v.ownBlock/\(v'.ownBlock=v.ownBlock\/v'.ownBlock=some w.heap.size):=by
 obtain⟨a,c,rfl,hc1,⟨hc2,hc3⟩,hc⟩:=hx
 cases a with
 | none=>
  obtain rfl:=hc3 rfl;obtain rfl:m=0:=by omega
  obtain rfl:news=[]:=List.eq_nil_of_length_eq_zero (by simpa using hl)
  exact⟨v,w,run_append_owned_none (P:=P) (w:=w) base t ty e i size ht hi v n xs hown,by simpa using hown,World.grownBy.refl w _,.inl rfl⟩
 | some ad=>
  have hcell:∀j u,news[j]?=some u->w.cell? (ad.add j)=some u:=by
   intro j u hu;obtain⟨b,hb,hcc⟩:=hc (by intro e;subst e;simp at hu);injection hb with hb;subst hb;exact hcc j u hu
  obtain⟨v',w',r1,r2,r3,_,r5⟩:=run_append_own_at (P:=P) w base t ty e i z size bytes ht hi hz hsize hby hzs hsz v n xs hown ad m c news hl hcell h1 h63 hbytes hbase;exact⟨v',w',r1,r2,r3,r5⟩
theorem D6{P:Program}{w:World}{ops:Array Oper}{rest:List Oper}{o:Oper}{a:Act}{Q:Exit->Act->World->Prop}(hgd:o.guard=none)(s x:Operand)(t:TypeId)
 (ho:o.op=.call {callee:=.builtin .append,args:=#[s,x],argTypes:=#[t,t]})
 (base:Nat)(e:TypeId)(i:TypeInfo)(z:Value)(size bytes:Nat)(ht:P.underlying t=some (.slice e))(hi:P.info? e=some i)(hz:i.zero=some z)
 (hsize:i.size=size)(hby:i.bytes=bytes)(hzs:z.cells.size=size)(hsz:0<size)
 (v:Value)(n:Nat)(xs:List Value)(hs:a.eval s=v)(hown:w.ownsRow base e size v n xs)(y:Value)(m:Nat)(news:List Value)(hy:a.eval x=y)(hx:a0m w y m news)(hl:news.length=m*size)(h1:∀u∈news,u.oneCell'=true)
 (h63:n+m<=maxLen)(hbytes:(n+m)*bytes<=140737488355328)(hbase:base<=w.heap.size)
 (h:∀b c w',w'.ownsRow base e size (.slice b (n+m) c) (n+m) (xs++news)->w.grownBy w' v.ownBlock->((Value.slice b (n+m) c).ownBlock=v.ownBlock\/(Value.slice b (n+m) c).ownBlock=some w.heap.size)->wpList P ops Q rest (a.put o.dst (.slice b (n+m) c)) w'):
 wpList P ops Q (o::rest) a w:=by
 refine wpList_plain hgd fun K hK=>?_;obtain⟨v',w',hrun,h2,h3,h4⟩:=a3V (P:=P) w base t o.type e i z size bytes ht hi hz hsize hby hzs hsz v n xs hown y m news hx hl h1 h63 hbytes hbase;obtain⟨b,c,rfl⟩:=ownsRow_form h2;unfold Oper.wp execOp;simp only[ho,resolve,invoke,builtin,Sem.run_bind,Sem.run_pure,Result.andThen_ok,List.map_toArray,List.map_cons,List.map_nil,hs,hy,hrun];exact hK _ _ (h b c w' h2 h3 h4)
theorem wpList_append_text{P:Program}{w:World}{ops:Array Oper}{rest:List Oper}{o:Oper}{a:Act}{Q:Exit->Act->World->Prop}(hgd:o.guard=none)(sl x:Operand)(t u:TypeId)
 (ho:o.op=.call {callee:=.builtin .append,args:=#[sl,x],argTypes:=#[t,u]})
 (base:Nat)(e:TypeId)(i:TypeInfo)(ht:P.underlying t=some (.slice e))(hu:P.underlying u=some .string)(hi:P.info? e=some i)(hz:i.zero=some (.int .u8 0))
 (hsize:i.size=1)(hby:i.bytes=1)
 (v:Value)(l:List UInt8)(hs:a.eval sl=v)(hown:w.ownsRow base e 1 v l.length (l.map byteV))(s:ByteArray)(hx:a.eval x=.string s)
 (h63:l.length+s.size<=maxLen)(hbytes:l.length+s.size<=140737488355328)(hbase:base<=w.heap.size)
 (h:∀b c w',w'.ownsRow base e 1 (.slice b (l.length+s.size) c) (l++s.data.toList).length ((l++s.data.toList).map byteV)->w.grownBy w' v.ownBlock->wpList P ops Q rest (a.put o.dst (.slice b (l.length+s.size) c)) w'):wpList P ops Q (o::rest) a w:=by
 refine wpList_append_own_string w hgd sl x t u ho base e i ht hu hi hz hsize hby v l.length (l.map byteV) hs hown s hx h63 hbytes hbase ?_;intro v' w' h1 h2 _;obtain⟨b,c,rfl⟩:=ownsRow_form h1;refine h b c w' ?_ h2;rw[a8U,<-List.map_append] at h1;rw[show(l++s.data.toList).length=l.length+s.size by rw[List.length_append,I8]];exact h1
theorem OwnB.tail{w:World}{B g n cap k:Nat}{l:List UInt8}(h:OwnB w B (.slice (some ⟨g,0,none⟩) n cap) l)(hk:k<=l.length)(hk0:0<k):
 (cap≠k->Bytes w (.slice (some ⟨g,k,none⟩) (l.length - k) (cap - k)) (l.drop k))/\(cap=k->Bytes w (.slice (some ⟨g,0,none⟩) (l.length - k) 0) (l.drop k)):=by
 obtain⟨a,c,hv,h1,h2,h3⟩:=h.bytes;injection hv with ha hn hc;subst hc;constructor
 ·intro _;refine⟨_,_,by rw[List.length_drop],by rw[List.length_drop];omega,⟨by omega,fun h=>by cases h⟩,fun hx=>⟨_,rfl,fun i x hi=>?_⟩⟩;obtain⟨b,hb,hcell⟩:=h3 (by intro e;simp at e;subst e;simp at hx);rw[<-ha] at hb;injection hb with hb;have:=hcell (k+i) x (by rw[<-List.getElem?_drop,<-List.map_drop];exact hi);rw[<-hb] at this;have e:(⟨g,0,none⟩:Addr).add (k+i)=(⟨g,k,none⟩:Addr).add i:=by
   unfold Addr.add;split<;>(try split)<;>simp_all<;>omega
  rw[<-e];exact this
 ·intro e;have:l.length=k:=by omega
  refine⟨_,_,by rw[List.length_drop],by rw[List.length_drop];omega,⟨by omega,fun h=>by cases h⟩,fun hx=>?_⟩;exfalso;apply hx;simp;omega
end
section
open Go.RowKit Pl
theorem a3w{c d:Nat}{x y:Int}(hx:x=c)(hy:y=d)(hc:c<4294967296)(hd:d<4294967296):
 bits BinOp.xor IntKind.u32 x y=((c ^^^ d:Nat):Int):=by
 rw[hx,hy];exact u32_xor_nat c d hc hd
theorem c1c{D:Nat}(hD:D<4294967296):
 bits BinOp.xor IntKind.u32 ((D:Int)/2) (bits BinOp.and IntKind.u32 (D:Int) 1*3988292384%4294967296)=(a1j D:Int):=by
 have h1:bits BinOp.and IntKind.u32 (D:Int) 1=((D%2:Nat):Int):=by
  have:=u32_and_nat D 1 hD (by omega);rw[nat_mask1] at this;exact this
 rw[h1];unfold a1j;by_cases hb:D%2=1
 ·rw[if_pos hb,hb];exact a3w (by omega) (by omega) (by omega) (by omega)
 ·rw[if_neg hb,show D%2=0 by omega];exact a3w (by omega) (by omega) (by omega) (by omega)
theorem c3c{D:Nat}(hD:D<4294967296)(h:D%2=1):bits BinOp.xor IntKind.u32 ((D:Int)/2) 3988292384=(a1j D:Int):=by
 unfold a1j;rw[if_pos h];exact a3w (by omega) (by omega) (by omega) (by omega)
theorem c1d{D:Nat}(h:¬D%2=1):(D:Int)/2=(a1j D:Int):=by
 unfold a1j;rw[if_neg h,Nat.xor_zero];omega
theorem sum_any(v:Value)(l:List UInt8)(w:World)(h:Bytes w v l):
 Calls Tryz.prog 128 #[v] w fun e w'=>e=.returned (.int .u32 (crc l))/\w=w':=by
 obtain⟨a,cap,rfl,hc,hc',hcell⟩:=h.open;go_enter Tryz.func128,Tryz.ntmps128
 go_wp2;go_loop [3,8] (fun c i=>∃k:Nat,k<=l.length/\i=.int .i64 k/\c=.int .u32 (Y3 4294967295 (l.take k))) (fun _ i=>l.length - (intOf i).toNat)
 case atStart=>exact⟨0,Nat.zero_le _,rfl,rfl⟩
 case round=>
  obtain⟨k,hk,rfl,rfl⟩:=hrel;by_cases hlt:k<l.length
  ·obtain⟨b,rfl,hb⟩:=hcell k hlt;have hs:Hid (Y3 4294967295 (l.take (k+1))=a1M (Y3 4294967295 (l.take k)) l[k]):=by
    have e:Y3 4294967295 (l.take (k+1))=a1M (Y3 4294967295 (l.take k)) l[k]:=by rw[take_snoc l k hlt,a5T]
    exact e
   have hC:=a2i (l.take k) (c:=4294967295) (by omega);clear hcell;generalize Y3 4294967295 (l.take k)=C at *;have hx:=b0Q l[k];generalize l[k]=x at *;go_wp2;go_loop [3,16] (fun c i=>∃j:Nat,j<=8/\i=.int .i64 j/\c=.int .u32 (a0i j (C ^^^ x.toNat))) (fun _ i=>8 - (intOf i).toNat)
   case atStart=>exact⟨0,by omega,rfl,congrArg (Value.int .u32) (a3w rfl (by omega) hC (by omega))⟩
   case round=>
    obtain⟨j,hj,rfl,rfl⟩:=hrel;have hfin:8=j->a1M C x=a0i j (C ^^^ x.toNat):=by rintro rfl;rfl
    have hD:=a5k j (a9i hC (b:=x.toNat) (by omega));have hn:Hid (a0i (j+1) (C ^^^ x.toNat)=a1j (a0i j (C ^^^ x.toNat))):=a5S j _;generalize a0i j (C ^^^ x.toNat)=D at *;by_cases hjl:j<8
    ·go_wp2;go_round
     case rel=>
      refine⟨j+1,by omega,by go_num,?_⟩;rw[hn.out,c1c hD]
     case measure=>simp[intOf];omega
    ·go_wp2;go_round
     case rel=>exact⟨k+1,by omega,by go_num,by rw[hs.out];rw[hfin (by omega)]⟩
     case measure=>simp[intOf];omega
  ·go_wp2;go_ret;obtain rfl:k=l.length:=by omega
   refine⟨?_,rfl⟩;show Ending.returned (Value.int .u32 (bits BinOp.xor IntKind.u32 IntKind.u32.max _))=_;rw[List.take_length,show IntKind.u32.max=((4294967295:Nat):Int) from rfl,a3w rfl rfl (by omega) (a2i l (by omega)),Nat.xor_comm];rfl
theorem a2j(v:Value)(l:List UInt8)(w:World)(h:Bytes w v l):
 Calls Tryz.prog 76 #[v] w fun e w'=>e=.returned (.int .u32 (crc l))/\w=w':=by
 obtain⟨a,cap,rfl,hc,hc',hcell⟩:=h.open;go_enter Tryz.func76,Tryz.ntmps76
 go_wp2;go_loop [3,4] (fun c i=>∃k:Nat,k<=l.length/\i=.int .i64 k/\c=.int .u32 (Y3 4294967295 (l.take k))) (fun _ i=>l.length - (intOf i).toNat)
 case atStart=>exact⟨0,Nat.zero_le _,rfl,rfl⟩
 case round=>
  obtain⟨k,hk,rfl,rfl⟩:=hrel;by_cases hlt:k<l.length
  ·obtain⟨b,rfl,hb⟩:=hcell k hlt;have hs:Hid (Y3 4294967295 (l.take (k+1))=a1M (Y3 4294967295 (l.take k)) l[k]):=by
    have e:Y3 4294967295 (l.take (k+1))=a1M (Y3 4294967295 (l.take k)) l[k]:=by rw[take_snoc l k hlt,a5T]
    exact e
   have hC:=a2i (l.take k) (c:=4294967295) (by omega);clear hcell;generalize Y3 4294967295 (l.take k)=C at *;have hx:=b0Q l[k];generalize l[k]=x at *;go_wp2;go_loop [3,5,6] (fun c i _=>∃j:Nat,j<=8/\i=.int .i64 j/\c=.int .u32 (a0i j (C ^^^ x.toNat))) (fun _ i _=>8 - (intOf i).toNat)
   case atStart=>exact⟨0,by omega,rfl,congrArg (Value.int .u32) (a3w rfl (by omega) hC (by omega))⟩
   case round=>
    obtain⟨j,hj,rfl,rfl⟩:=hrel;have hfin:8=j->a1M C x=a0i j (C ^^^ x.toNat):=by rintro rfl;rfl
    have hD:=a5k j (a9i hC (b:=x.toNat) (by omega));have hn:Hid (a0i (j+1) (C ^^^ x.toNat)=a1j (a0i j (C ^^^ x.toNat))):=a5S j _;generalize a0i j (C ^^^ x.toNat)=D at *;by_cases hjl:j<8
    ·by_cases hodd:D%2=1;all_goals
      have ho:(((D:Int)%2==1)=decide (D%2=1)):=by rw[Bool.eq_iff_iff];simp;omega
      simp only[hodd,decide_true,decide_false] at ho;go_wp2;go_round
      case rel=>
       refine⟨j+1,by omega,by go_num,?_⟩;rw[hn.out];first|rw[c3c hD hodd]|rw[<-c1d hodd]
      case measure=>simp[intOf];omega
    ·go_wp2;go_round
     case rel=>exact⟨k+1,by omega,by go_num,by rw[hs.out];rw[hfin (by omega)]⟩
     case measure=>simp[intOf];omega
  ·go_wp2;go_ret;obtain rfl:k=l.length:=by omega
   refine⟨?_,rfl⟩;show Ending.returned (Value.int .u32 (bits BinOp.xor IntKind.u32 _ _))=_;rw[List.take_length,show(4294967295:Int)=((4294967295:Nat):Int) from rfl,a3w rfl rfl (a2i l (by omega)) (by omega)];rfl
end
section
open Go.RowKit Go.Lib Pl
def c48(B:Nat)(l:List UInt8)(w:World)(e:Ending)(w':World):Prop:=∃v,e=.returned v/\OwnB w' B v l/\Below B w w'
end
section
open Go.RowKit Go.Lib Pl
def c4f(seq:Nat)(k v:ByteArray)(d:Bool):Value:=.agg #[.int .u64 seq,.string k,.string v,.bool d]
def X6(n:Int):Value:=.iface 37 (.int .i64 n)
def o7(w:World)(n:Nat)(t:TypeId)(cs:Array Value):Prop:=w.heap[n]?=some (.cells cs t (0,0))
theorem o7.cell{w:World}{n:Nat}{t:TypeId}{cs:Array Value}(h:o7 w n t cs)(i:Nat):w.cell? ⟨n,i,none⟩=cs[i]?:=by
 unfold o7 at h;simp[World.cell?,h]
theorem o7.new{w:World}{n:Nat}(cs:Array Value)(t:TypeId)(h:w.heap.size=n):o7 (w.alloc (.cells cs t)) n t cs:=by
 subst h;exact heap_alloc_new w _
theorem o7.below{w w':World}{n B:Nat}{t:TypeId}{cs:Array Value}(h:o7 w n t cs)(hb:Below B w w')(hn:n<B):o7 w' n t cs:=
 (hb.block n hn).trans h
theorem o7.grown{w w':World}{n:Nat}{t:TypeId}{cs:Array Value}(h:o7 w n t cs){row:Option Nat}(hg:w.grownBy w' row)(hr:∀k,row=some k->n<k):o7 w' n t cs:=
 (hg.block n (lt_of_block h) (fun e=>by have:=hr n e.symm;omega)).trans h
theorem o7.alloc{w:World}{n:Nat}{t:TypeId}{cs:Array Value}(h:o7 w n t cs)(o:Obj):o7 (w.alloc o) n t cs:=
 (Below.heap_alloc w o n (lt_of_block h)).trans h
end
section
open Go.RowKit Go.Lib Pl
theorem add_block(a:Addr)(n:Nat):(a.add n).block=a.block:=by unfold Addr.add;split<;>rfl
def X7(w:World)(b:Nat)(v:Value)(l:List UInt8):Prop:=Bytes w v l/\∀ad n c,v=.slice (some ad) n c->l≠[]->ad.block<b
theorem X7.below{w w':World}{b:Nat}{v:Value}{l:List UInt8}(h:X7 w b v l)(hb:Below b w w'):X7 w' b v l:=by
 obtain⟨⟨a,cap,rfl,h1,h2,h3⟩,h4⟩:=h;refine⟨⟨a,cap,rfl,h1,h2,fun hx=>?_⟩,h4⟩;obtain⟨ad,rfl,hc⟩:=h3 hx;refine⟨ad,rfl,fun i x hi=>?_⟩;have hlt:=h4 ad _ _ rfl (by intro e;subst e;simp at hx);exact(hb.cell (p:=ad.add i) (by rw[add_block];exact hlt)).trans (hc i x hi)
theorem X7.of{w:World}{v:Value}{l:List UInt8}(h:Bytes w v l):X7 w w.heap.size v l:=by
 refine⟨h,?_⟩;rintro ad n c rfl hne;obtain⟨a,cap,hv,h1,h2,h3⟩:=h;injection hv with ha;obtain⟨b,hb,hc⟩:=h3 (by simpa using hne);rw[hb] at ha;injection ha with ha;subst ha
 cases l with
 | nil=>exact absurd rfl hne
 | cons x l=>
  have:=World.block_lt_of_cell? w _ (hc 0 _ rfl);rw[add_block] at this;exact this
theorem X7.sliced{w:World}{b:Nat}{a:Option Addr}{n cap:Nat}{l:List UInt8}(h:X7 w b (.slice a n cap) l)(i j:Nat)(hij:i<=j)(hj:j<=l.length):
 X7 w b (.slice (if cap=i then a else a.map (·.add i)) (j - i) (cap - i)) ((l.take j).drop i):=by
 refine⟨h.1.sliced i j hij hj,?_⟩;rintro ad m c hv hne;injection hv with ha;have hl:l≠[]:=by intro e;subst e;simp at hne
 cases a with
 | none=>split at ha<;>simp at ha
 | some a0=>
  have:=h.2 a0 n cap rfl hl;split at ha
  ·injection ha with ha;subst ha;exact this
  ·simp at ha;subst ha;rw[add_block];exact this
theorem X7.head{w:World}{b:Nat}{a:Option Addr}{m cap:Nat}{l:List UInt8}(h:X7 w b (.slice a m cap) l)(n:Nat)(hn:n<=l.length):X7 w b (.slice a n n) (l.take n):=by
 obtain⟨⟨a',c,hv,h1,h2,h3⟩,h4⟩:=h;injection hv with ha hm hc;subst ha;subst hc;have hlen:(l.take n).length=n:=by rw[List.length_take];omega
 refine⟨?_,?_⟩
 ·unfold Bytes;rw[hlen];refine⟨_,_,rfl,Nat.le_refl _,⟨by omega,fun hn=>by have:=h2.2 hn;omega⟩,fun hx=>?_⟩;obtain⟨ad,hb,hcell⟩:=h3 (by intro e;apply hx;simp at e;subst e;simp);refine⟨ad,hb,fun i x hi=>hcell i x ?_⟩;rw[List.map_take,List.getElem?_take] at hi;split at hi
  ·exact hi
  ·cases hi
 ·rintro ad k c hv hne;injection hv with ha;exact h4 ad _ _ (by rw[ha]) (by intro e;subst e;simp at hne)
def J5(w:World)(b B:Nat)(l:List UInt8)(bad:Bool):Prop:=
 ∃v,w.heap[b]?=some (.cells #[v,.bool bad] 241 (0,0))/\B<=b/\X7 w B v l
theorem J5.set{w:World}{b B:Nat}{l:List UInt8}{bad:Bool}(h:J5 w b B l bad){a:Addr}(ha:a.block≠b)(hB:B<=a.block)(u:Value):J5 (w.setCell a u) b B l bad:=by
 obtain⟨v,h1,h2,h3⟩:=h;exact⟨v,by rw[Below.heap_setCell _ _ _ _ (Ne.symm ha)];exact h1,h2,h3.below ((Below.refl B w).setCell hB _)⟩
def c0Z(b B:Nat)(l:List UInt8)(w:World)(e:Ending)(w':World):Prop:=e=.returned (.slice none 0 0)/\J5 w' b B l true/\Below b w w'
def c02(b B n:Nat)(l:List UInt8)(w:World)(e:Ending)(w':World):Prop:=∃v,e=.returned v/\X7 w' B v (l.take n)/\J5 w' b B (l.drop n) false/\Below b w w'
theorem a1X{w:World}{b:Nat}{u v:Value}{t:TypeId}(h:w.heap[b]?=some (.cells #[u,v] t (0,0))):
 w.cell? ⟨b,0,none⟩=some u/\w.cell? ⟨b,1,none⟩=some v/\w.frozen? ⟨b,0,none⟩=false/\w.frozen? ⟨b,1,none⟩=false:=by
 simp[World.cell?,World.frozen?,h]
theorem b3u{w:World}{b:Nat}{u v x:Value}{t:TypeId}(h:w.heap[b]?=some (.cells #[u,v] t (0,0))):(w.setCell ⟨b,0,none⟩ x).heap[b]?=some (.cells #[x,v] t (0,0)):=by
 simp[World.setCell,Array.getElem?_modify,h]
theorem b3v{w:World}{b:Nat}{u v x:Value}{t:TypeId}(h:w.heap[b]?=some (.cells #[u,v] t (0,0))):(w.setCell ⟨b,1,none⟩ x).heap[b]?=some (.cells #[u,x] t (0,0)):=by
 simp[World.setCell,Array.getElem?_modify,h]
theorem b6i(b B n:Nat)(l:List UInt8)(bad:Bool)(w:World)(h:J5 w b B l bad)(hn:bad=true\/l.length<n):
 Calls Tryz.prog 166 #[.pointer (some ⟨b,0,none⟩),.int .u64 n] w (c0Z b B l w):=by
 obtain⟨v,hb,hBb,hv⟩:=h;have hfin:c0Z b B l w (.returned (.slice none 0 0)) (w.setCell ⟨b,1,none⟩ (.bool true)):=by
  have hB:Below b w (w.setCell ⟨b,1,none⟩ (.bool true)):=(Below.refl b w).setCell (Nat.le_refl _) _;exact⟨rfl,⟨v,b3v hb,hBb,hv.below (hB.mono hBb)⟩,hB⟩
 have HF:=Lib.hid hfin;clear hfin;obtain⟨hc0,hc1,hf0,hf1⟩:=a1X hb;clear hb;obtain⟨⟨a,cap,rfl,h1,h2,h3⟩,h4⟩:=hv;have hwl:IntKind.u64.wrap (l.length:Int)=(l.length:Int):=by rw[IntKind.wrap_u64];omega
 clear h2 h3 h4;by_cases hbad:bad=true
 ·subst hbad;go_enter Tryz.func166,Tryz.ntmps166
  go_wp2;go_ret;exact HF.out
 ·obtain rfl:bad=false:=by simpa using hbad
  have hlt:l.length<n:=by simpa using hn
  go_enter Tryz.func166,Tryz.ntmps166
  go_wp2;go_ret;exact HF.out
theorem b6j(b B n:Nat)(l:List UInt8)(w:World)(h:J5 w b B l false)(hn:n<=l.length):
 Calls Tryz.prog 166 #[.pointer (some ⟨b,0,none⟩),.int .u64 n] w (c02 b B n l w):=by
 obtain⟨v,hb,hBb,hv⟩:=h;obtain⟨⟨a,cap,rfl,h1,h2,h3⟩,h4⟩:=id hv;have HV:=Lib.hid hv;have HB:=Lib.hid hb;obtain⟨hc0,hc1,hf0,hf1⟩:=a1X hb;clear hb hv;have hwl:IntKind.u64.wrap (l.length:Int)=(l.length:Int):=by rw[IntKind.wrap_u64];omega
 have hnl:¬l.length<n:=by omega
 clear h2 h3 h4;have hfin:∀u,X7 w B u (l.drop n)->c02 b B n l w (.returned (.slice a n n)) (w.setCell ⟨b,0,none⟩ u):=by
  intro u hu;have hB:Below b w (w.setCell ⟨b,0,none⟩ u):=(Below.refl b w).setCell (Nat.le_refl _) _;exact⟨_,rfl,(HV.out.head n hn).below (hB.mono hBb),⟨u,b3u HB.out,hBb,hu.below (hB.mono hBb)⟩,hB⟩
 have ht:=HV.out.sliced n l.length hn (Nat.le_refl _);rw[List.take_length] at ht;have HF:=Lib.hid hfin;clear hfin;have HT:=Lib.hid ht;clear ht;by_cases hcn:cap=n
 ·subst hcn;have HT':=Lib.hid (by simpa using HT.out:X7 w B (.slice a (l.length - cap) 0) (l.drop cap));go_enter Tryz.func166,Tryz.ntmps166
  go_wp2;go_ret;have e0:l.length - cap=0:=by omega
  have ht:=HT'.out;rw[e0] at ht;exact HF.out _ ht
 ·have HT':=Lib.hid (by simpa [hcn] using HT.out:X7 w B (.slice (Option.map (fun x=>x.add n) a) (l.length - n) (cap - n)) (l.drop n));go_enter Tryz.func166,Tryz.ntmps166
  go_wp2;go_ret;exact HF.out _ HT'.out
def a9m(b B:Nat)(m:Nat)(l:List UInt8)(bad:Bool)(w:World)(e:Ending)(w':World):Prop:=e=.returned (.int .u64 m)/\J5 w' b B l bad/\Below b w w'
theorem b47(b B n:Nat)(l:List UInt8)(bad:Bool)(w:World)(h:J5 w b B l bad)(hn:bad=true\/l.length<n):
 Calls Tryz.prog 126 #[.pointer (some ⟨b,0,none⟩),.int .u64 n] w (a9m b B 0 l true w):=by
 have H:=Lib.hid h;clear h;go_enter Tryz.func126,Tryz.ntmps126
 go_wp2_with fail
 refine(b6i b B n l bad w H.out hn).mono ?_;rintro e w1 ⟨rfl,h1,h2⟩;have H1:=Lib.hid h1;clear h1;go_wp2;refine wp_loop_rounds 1 ?_;rw[rounds_succ];go_wp2;go_ret;exact⟨rfl,H1.out,h2⟩
theorem b6k{C:Nat}{x:UInt8}(hC:C<72057594037927936):bits BinOp.or IntKind.u64 ((C:Int)*256) (x.toNat:Int)=((C*256+x.toNat:Nat):Int):=by
 have hx:=b0Q x;have h1:=u64_or_nat (C*256) x.toNat (by omega) (by omega);have h2:((C*256:Nat):Int)=(C:Int)*256:=by omega
 rw[h2] at h1;rw[h1,nat_join 8 (C*256) x.toNat (by omega) (by omega)]
theorem b48(b B n:Nat)(l:List UInt8)(w:World)(h:J5 w b B l false)(hn:n<=l.length)(h8:n<=8):
 Calls Tryz.prog 126 #[.pointer (some ⟨b,0,none⟩),.int .u64 n] w (a9m b B (num (l.take n)) (l.drop n) false w):=by
 have H:=Lib.hid h;clear h;go_enter Tryz.func126,Tryz.ntmps126
 go_wp2_with fail
 refine(b6j b B n l w H.out hn).mono ?_;rintro e w1 ⟨v,rfl,⟨hv,_⟩,h1,h2⟩;have H1:=Lib.hid h1;clear h1;have hlen:(l.take n).length<=8:=by rw[List.length_take];omega
 generalize l.take n=m at *;obtain⟨a,cap,rfl,hc,hc',hcell⟩:=hv.open;go_wp2;go_loop [5,7,12] (fun c _ i=>∃k:Nat,k<=m.length/\i=.int .i64 k/\c=.int .u64 (num (m.take k))) (fun _ _ i=>m.length - (intOf i).toNat)
 case atStart=>exact⟨0,Nat.zero_le _,rfl,rfl⟩
 case round=>
  obtain⟨k,hk,rfl,rfl⟩:=hrel;by_cases hlt:k<m.length
  ·obtain⟨ad,rfl,hb⟩:=hcell k hlt;have hs:Hid (num (m.take (k+1))=num (m.take k)*256+m[k].toNat):=by
    have e:num (m.take (k+1))=num (m.take k)*256+m[k].toNat:=by rw[take_snoc m k hlt,a9j]
    exact e
   have hC:num (m.take k)<256^7:=Nat.lt_of_lt_of_le (b1V _) (Nat.pow_le_pow_right (by omega) (by rw[List.length_take];omega));clear hcell;generalize num (m.take k)=C at *;have hx:=b0Q m[k];generalize m[k]=x at *;have hC':C<72057594037927936:=hC;clear hC;go_wp2;go_round
   case rel=>
    refine⟨k+1,by omega,by go_num,?_⟩;rw[hs.out,b6k hC']
   case measure=>simp[intOf];omega
  ·go_wp2;go_ret;obtain rfl:k=m.length:=by omega
   exact⟨by rw[List.take_length];rfl,H1.out,h2⟩
theorem Q8{w:World}{v:Value}{l:List UInt8}(hb:Bytes w v l):
 (convert 25 9 v).run Tryz.prog w=.ok (.string ⟨l.toArray⟩) w:=by
 obtain⟨a,cap,rfl,h1,h2,h3⟩:=hb.open
 cases a with
 | none=>
  have:l=[]:=by
   cases l with
   | nil=>rfl
   | cons x l=>obtain⟨b,hb,_⟩:=h3 0 (by simp);cases hb
  subst this
  exact run_convert_bytes_nil w 25 5 Tryz.underlying25 Tryz.underlying5 _ _ 9 Tryz.underlying9
 | some ad=>
  exact run_convert_bytes_back w 25 9 5 ad cap l Tryz.underlying25 Tryz.underlying5 Tryz.underlying9 (fun j hj=>by
   obtain⟨b,hb,hc⟩:=h3 j hj;injection hb with hb;subst hb;exact hc)
def b49(b B:Nat)(s:List UInt8)(l:List UInt8)(bad:Bool)(w:World)(e:Ending)(w':World):Prop:=e=.returned (.string ⟨s.toArray⟩)/\J5 w' b B l bad/\Below b w w'
theorem c04(b B n:Nat)(l:List UInt8)(bad:Bool)(w:World)(h:J5 w b B l bad)(hn:bad=true\/l.length<n):
 Calls Tryz.prog 127 #[.pointer (some ⟨b,0,none⟩),.int .u64 n] w (b49 b B [] l true w):=by
 have H:=Lib.hid h;clear h;go_enter Tryz.func127,Tryz.ntmps127
 go_wp2_with fail
 refine(b6i b B n l bad w H.out hn).mono ?_;rintro e w1 ⟨rfl,h1,h2⟩;have H1:=Lib.hid h1;clear h1;have hs:=Q8 (w:=w1) (v:=.slice none 0 0) (l:=[]) ⟨none,0,rfl,Nat.le_refl _,⟨by omega,fun _=>rfl⟩,fun h=>absurd rfl h⟩;go_wp2;go_ret;exact⟨rfl,H1.out,h2⟩
theorem c05(b B n:Nat)(l:List UInt8)(w:World)(h:J5 w b B l false)(hn:n<=l.length):
 Calls Tryz.prog 127 #[.pointer (some ⟨b,0,none⟩),.int .u64 n] w (b49 b B (l.take n) (l.drop n) false w):=by
 have H:=Lib.hid h;clear h;go_enter Tryz.func127,Tryz.ntmps127
 go_wp2_with fail
 refine(b6j b B n l w H.out hn).mono ?_;rintro e w1 ⟨v,rfl,⟨hv,_⟩,h1,h2⟩;have H1:=Lib.hid h1;clear h1;have hs:=Q8 hv;clear hv;go_wp2;go_ret;exact⟨rfl,H1.out,h2⟩
theorem a1z(b B n:Nat)(s:List UInt8×Bool)(w:World)(h:J5 w b B s.1 s.2)(h8:n<=8):
 Calls Tryz.prog 126 #[.pointer (some ⟨b,0,none⟩),.int .u64 n] w (a9m b B (rdN s n).1 (rdN s n).2.1 (rdN s n).2.2 w):=by
 unfold rdN;by_cases hc:s.2=true\/s.1.length<n
 ·rw[if_pos hc];exact b47 b B n s.1 s.2 w h hc
 ·rw[if_neg hc];have h2:s.2=false:=by simpa using fun e=>hc (.inl e)
  rw[h2] at h;exact b48 b B n s.1 w h (by omega) h8
theorem b0S(b B n:Nat)(s:List UInt8×Bool)(w:World)(h:J5 w b B s.1 s.2):
 Calls Tryz.prog 127 #[.pointer (some ⟨b,0,none⟩),.int .u64 n] w (b49 b B (rdT s n).1 (rdT s n).2.1 (rdT s n).2.2 w):=by
 unfold rdT;by_cases hc:s.2=true\/s.1.length<n
 ·rw[if_pos hc];exact c04 b B n s.1 s.2 w h hc
 ·rw[if_neg hc];have h2:s.2=false:=by simpa using fun e=>hc (.inl e)
  rw[h2] at h;exact c05 b B n s.1 w h (by omega)
end
section
open Go.RowKit Go.Lib Pl
def a0l:Value:=.agg #[.int .u64 0,.string ⟨#[]⟩,.string ⟨#[]⟩,.bool false]
def a1w:Option Rec->Value
 | none=>.tuple #[a0l,.int .i64 0,X6 3]
 | some r=>.tuple #[.agg #[.int .u64 r.seq,.string ⟨r.key.toArray⟩,.string ⟨r.val.toArray⟩,.bool r.del],.int .i64 r.size,.nilIface]
def c5w(r:Option Rec)(w:World)(e:Ending)(w':World):Prop:=e=.returned (a1w r)/\Ext w w'
theorem o7.set{w:World}{n:Nat}{t:TypeId}{cs:Array Value}(h:o7 w n t cs)(i:Nat)(u:Value):o7 (w.setCell ⟨n,i,none⟩ u) n t (cs.setIfInBounds i u):=by
 unfold o7 at *;simp[World.setCell,Array.getElem?_modify,h]
theorem o7.setOther{w:World}{n:Nat}{t:TypeId}{cs:Array Value}(h:o7 w n t cs){a:Addr}(ha:a.block≠n)(u:Value):o7 (w.setCell a u) n t cs:=
 (Below.heap_setCell _ _ _ _ (Ne.symm ha)).trans h
theorem o7.free{w:World}{n:Nat}{t:TypeId}{cs:Array Value}(h:o7 w n t cs)(i:Nat):w.frozen? ⟨n,i,none⟩=false:=by
 unfold o7 at h;simp[World.frozen?,h]
theorem Ext.setN{w w':World}(h:Ext w w'){a:Addr}(ha:w.heap.size<=a.block){u:Value}:Ext w (w'.setCell a u):=h.setCell (p:=a) ha u
theorem decode_any(v:Value)(l:List UInt8)(w:World)(h:Bytes w v l):
 Calls Tryz.prog 71 #[v] w (c5w (dec l) w):=by
 obtain⟨⟨m1,s1⟩,e1⟩:∃p,p=rdN (l,false) 4:=⟨_,rfl⟩;obtain⟨⟨m2,s2⟩,e2⟩:∃p,p=rdN s1 8:=⟨_,rfl⟩;obtain⟨⟨fl,s3⟩,e3⟩:∃p,p=rdN s2 1:=⟨_,rfl⟩;obtain⟨⟨k,s4⟩,e4⟩:∃p,p=rdN s3 1:=⟨_,rfl⟩;obtain⟨⟨vl,s5⟩,e5⟩:∃p,p=rdN s4 2:=⟨_,rfl⟩;obtain⟨⟨key,s6⟩,e6⟩:∃p,p=rdT s5 k:=⟨_,rfl⟩;obtain⟨⟨val,s7⟩,e7⟩:∃p,p=rdT s6 vl:=⟨_,rfl⟩;obtain⟨hk,hvl,hall⟩:=c41 e1 e2 e3 e4 e5 e6 e7;have HA:=Lib.hid hall;clear hall;have E1:=Lib.hid e1;have E2:=Lib.hid e2;have E3:=Lib.hid e3;have E4:=Lib.hid e4;have E5:=Lib.hid e5;have E6:=Lib.hid e6;have E7:=Lib.hid e7;clear e1 e2 e3 e4 e5 e6 e7;obtain⟨a,cap,rfl,h1,h2,h3⟩:=id h;have HL:=Lib.hid (X7.of h);clear h h2 h3;go_enter Tryz.func71,Tryz.ntmps71
 go_wp2_with fail
 have x0:o7 (w.alloc (.cells #[.int .u64 0,.string ⟨#[]⟩,.string ⟨#[]⟩,.bool false] 111)) w.heap.size 111 #[.int .u64 0,.string ⟨#[]⟩,.string ⟨#[]⟩,.bool false]:=heap_alloc_new w _;have y0:o7 ((w.alloc (.cells #[.int .u64 0,.string ⟨#[]⟩,.string ⟨#[]⟩,.bool false] 111)).alloc (.cells #[.int .u64 0,.string ⟨#[]⟩,.string ⟨#[]⟩,.bool false] 111)) (w.heap.size+1) 111 #[.int .u64 0,.string ⟨#[]⟩,.string ⟨#[]⟩,.bool false]:=o7.new _ _ (by simp);have X:=(x0.alloc (.cells #[.int .u64 0,.string ⟨#[]⟩,.string ⟨#[]⟩,.bool false] 111)).alloc (.cells #[.slice a l.length cap,.bool false] 241);have Y:=y0.alloc (.cells #[.slice a l.length cap,.bool false] 241);have hEx:Ext w (((w.alloc (.cells #[.int .u64 0,.string ⟨#[]⟩,.string ⟨#[]⟩,.bool false] 111)).alloc (.cells #[.int .u64 0,.string ⟨#[]⟩,.string ⟨#[]⟩,.bool false] 111)).alloc (.cells #[.slice a l.length cap,.bool false] 241)):=(((Ext.refl w).new _).new _).new _;have hR:J5 (((w.alloc (.cells #[.int .u64 0,.string ⟨#[]⟩,.string ⟨#[]⟩,.bool false] 111)).alloc (.cells #[.int .u64 0,.string ⟨#[]⟩,.string ⟨#[]⟩,.bool false] 111)).alloc (.cells #[.slice a l.length cap,.bool false] 241)) (w.heap.size+1+1) w.heap.size l false:=by
  refine⟨.slice a l.length cap,?_,by omega,HL.out.below hEx⟩;exact o7.new _ _ (by simp)
 clear x0 y0;have c1:=a1z (w.heap.size+1+1) w.heap.size 4 (l,false) _ hR (by omega);rw[<-E1.out] at c1;refine c1.mono ?_;clear c1 hR;rintro e w1 ⟨rfl,hR,hb⟩;replace hEx:=Below.trans hEx (hb.mono (by omega));replace X:=X.below hb (by omega);replace Y:=Y.below hb (by omega);clear hb;go_wp2_with fail
 have c2:=a1z (w.heap.size+1+1) w.heap.size 8 s1 _ hR (by omega);rw[<-E2.out] at c2;refine c2.mono ?_;clear c2 hR;rintro e w2 ⟨rfl,hR,hb⟩;replace hEx:=Below.trans hEx (hb.mono (by omega));replace X:=X.below hb (by omega);replace Y:=Y.below hb (by omega);clear hb;have yc:w2.cell? ⟨w.heap.size+1,0,none⟩=some (.int .u64 0):=Y.cell 0;have yf:=Y.free 0;go_wp2_with fail
 clear yc yf;replace hR:=hR.set (a:=⟨w.heap.size+1,0,none⟩) (by simp) (by simp) (.int .u64 m2);replace X:=X.setOther (a:=⟨w.heap.size+1,0,none⟩) (by simp) (.int .u64 m2);replace Y:=Y.set 0 (.int .u64 m2);replace hEx:=hEx.setCell (p:=⟨w.heap.size+1,0,none⟩) (by simp) (.int .u64 m2);have c3:=a1z (w.heap.size+1+1) w.heap.size 1 s2 _ hR (by omega);rw[<-E3.out] at c3;refine c3.mono ?_;clear c3 hR;rintro e w3 ⟨rfl,hR,hb⟩;replace hEx:=Below.trans hEx (hb.mono (by omega));replace X:=X.below hb (by omega);replace Y:=Y.below hb (by omega);clear hb;go_wp2_with fail
 have c4:=a1z (w.heap.size+1+1) w.heap.size 1 s3 _ hR (by omega);rw[<-E4.out] at c4;refine c4.mono ?_;clear c4 hR;rintro e w4 ⟨rfl,hR,hb⟩;replace hEx:=Below.trans hEx (hb.mono (by omega));replace X:=X.below hb (by omega);replace Y:=Y.below hb (by omega);clear hb;go_wp2_with fail
 have c5:=a1z (w.heap.size+1+1) w.heap.size 2 s4 _ hR (by omega);rw[<-E5.out] at c5;refine c5.mono ?_;clear c5 hR;rintro e w5 ⟨rfl,hR,hb⟩;replace hEx:=Below.trans hEx (hb.mono (by omega));replace X:=X.below hb (by omega);replace Y:=Y.below hb (by omega);clear hb;go_wp2_with fail
 have c6:=b0S (w.heap.size+1+1) w.heap.size k s5 _ hR;rw[<-E6.out] at c6;refine c6.mono ?_;clear c6 hR;rintro e w6 ⟨rfl,hR,hb⟩;replace hEx:=Below.trans hEx (hb.mono (by omega));replace X:=X.below hb (by omega);replace Y:=Y.below hb (by omega);clear hb;go_wp2_with fail
 have c7:=b0S (w.heap.size+1+1) w.heap.size vl s6 _ hR;rw[<-E7.out] at c7;refine c7.mono ?_;clear c7 hR;rintro e w7 ⟨rfl,hR,hb⟩;replace hEx:=Below.trans hEx (hb.mono (by omega));replace X:=X.below hb (by omega);replace Y:=Y.below hb (by omega);clear hb;have yc1:w7.cell? ⟨w.heap.size+1,1,none⟩=some (.string ⟨#[]⟩):=Y.cell 1;have yc2:w7.cell? ⟨w.heap.size+1,2,none⟩=some (.string ⟨#[]⟩):=Y.cell 2;have yc3:w7.cell? ⟨w.heap.size+1,3,none⟩=some (.bool false):=Y.cell 3;have yf1:=Y.free 1;have yf2:=Y.free 2;have yf3:=Y.free 3;have xc0:w7.cell? ⟨w.heap.size,0,none⟩=some (.int .u64 0):=X.cell 0;have xc1:w7.cell? ⟨w.heap.size,1,none⟩=some (.string ⟨#[]⟩):=X.cell 1;have xc2:w7.cell? ⟨w.heap.size,2,none⟩=some (.string ⟨#[]⟩):=X.cell 2;have xc3:w7.cell? ⟨w.heap.size,3,none⟩=some (.bool false):=X.cell 3;have xf0:=X.free 0;have xf1:=X.free 1;have xf2:=X.free 2;have xf3:=X.free 3;have hwk:IntKind.i64.wrap (k:Int)=(k:Int):=IntWalk.i64_in _ (by omega);have hwv:IntKind.i64.wrap (vl:Int)=(vl:Int):=IntWalk.i64_in _ (by omega);obtain⟨rv,hr1,hr2,hr3⟩:=hR;obtain⟨rc0,rc1,rf0,rf1⟩:=a1X hr1;clear hr1 hr2 hr3 rf0 rf1 rc0;by_cases hbad:s7.2=true
 ·have hd:dec l=none:=by
   rcases HA.out with⟨_,h⟩|⟨h,_⟩
   ·unfold dec good;rw[decide_eq_false (by omega)];rfl
   ·rw[hbad] at h;cases h
  rw[hbad] at rc1;go_wp2;refine bodyPost_ret (v:=a1w none) ?_ rfl ⟨by rw[hd],?_⟩
  ·simp[results,Tryz.results71,go_sem,xc0,xc1,xc2,xc3,a1w,a0l,X6]
  ·repeat' refine Ext.setN ?_ (by simp)
   exact hEx
 replace hbad:s7.2=false:=Bool.eq_false_iff.2 hbad;rw[hbad] at rc1;obtain⟨hlen,rfl,rfl,rfl,rfl,rfl,rfl,rfl⟩:16+D8 l+H5 l<=l.length/\m1=num (List.take 4 l)/\m2=num (List.take 8 (List.drop 4 l))/\fl=P7 l/\k=D8 l/\vl=H5 l/\key=List.take k (List.drop 16 l)/\val=List.take vl (List.drop (16+k) l):=by
  rcases HA.out with⟨h,_⟩|⟨_,h⟩
  ·rw[hbad] at h;cases h
  ·exact h
 have HD:good l=false->dec l=none:=by intro h;unfold dec;rw[h];rfl
 by_cases c1:1<P7 l
 ·have hd:dec l=none:=HD (by unfold good;rw[show decide (P7 l<=1)=false from decide_eq_false (by omega)];simp);go_wp2;refine bodyPost_ret (v:=a1w none) ?_ rfl ⟨by rw[hd],?_⟩
  ·simp[results,Tryz.results71,go_sem,xc0,xc1,xc2,xc3,a1w,a0l,X6]
  ·repeat' refine Ext.setN ?_ (by simp)
   exact hEx
 by_cases c2:D8 l<1
 ·have hd:dec l=none:=HD (by unfold good;rw[show decide (1<=D8 l)=false from decide_eq_false (by omega)];simp);go_wp2;refine bodyPost_ret (v:=a1w none) ?_ rfl ⟨by rw[hd],?_⟩
  ·simp[results,Tryz.results71,go_sem,xc0,xc1,xc2,xc3,a1w,a0l,X6]
  ·repeat' refine Ext.setN ?_ (by simp)
   exact hEx
 by_cases c3:16<D8 l
 ·have hd:dec l=none:=HD (by unfold good;rw[show decide (D8 l<=16)=false from decide_eq_false (by omega)];simp);go_wp2;refine bodyPost_ret (v:=a1w none) ?_ rfl ⟨by rw[hd],?_⟩
  ·simp[results,Tryz.results71,go_sem,xc0,xc1,xc2,xc3,a1w,a0l,X6]
  ·repeat' refine Ext.setN ?_ (by simp)
   exact hEx
 by_cases c4:64<H5 l
 ·have hd:dec l=none:=HD (by unfold good;rw[show decide (H5 l<=64)=false from decide_eq_false (by omega)];simp);go_wp2;refine bodyPost_ret (v:=a1w none) ?_ rfl ⟨by rw[hd],?_⟩
  ·simp[results,Tryz.results71,go_sem,xc0,xc1,xc2,xc3,a1w,a0l,X6]
  ·repeat' refine Ext.setN ?_ (by simp)
   exact hEx
 by_cases c5:P7 l=1/\0<H5 l
 ·have hd:dec l=none:=HD (by unfold good;rw[show decide (P7 l=1)=true from decide_eq_true (by omega),show decide (0<H5 l)=true from decide_eq_true (by omega)];simp);have hv0:=c5.2;have hf1:((P7 l:Int)==1)=true:=beq_iff_eq.2 (by omega);go_wp2;refine bodyPost_ret (v:=a1w none) ?_ rfl ⟨by rw[hd],?_⟩
  ·simp[results,Tryz.results71,go_sem,xc0,xc1,xc2,xc3,a1w,a0l,X6]
  ·repeat' refine Ext.setN ?_ (by simp)
   exact hEx
 by_cases hf:P7 l=1
 ·have hv0:¬0<H5 l:=fun h=>c5 ⟨hf,h⟩;have hf1:((P7 l:Int)==1)=true:=beq_iff_eq.2 (by omega);have hsl:∀W:World,Below w.heap.size w W->Bytes W (.slice (a.map (fun x=>⟨x.block,x.off+4,none⟩)) (16+D8 l+H5 l - 4) (cap - 4)) ((l.take (16+D8 l+H5 l)).drop 4):=by
   intro W hW;have:=((HL.out.below hW).sliced 4 (16+D8 l+H5 l) (by omega) (by omega)).1;rw[if_neg (by omega)] at this;exact this
  have HS:=Lib.hid hsl;clear hsl;have hcap:16+D8 l+H5 l<=cap:=by omega
  have hm1:num (l.take 4)<4294967296:=O3 l 4;have hEx':Ext w (((w7.setCell ⟨w.heap.size+1,1,none⟩ (.string ⟨(List.take (D8 l) (List.drop 16 l)).toArray⟩)).setCell ⟨w.heap.size+1,2,none⟩ (.string ⟨(List.take (H5 l) (List.drop (16+D8 l) l)).toArray⟩)).setCell ⟨w.heap.size+1,3,none⟩ (.bool true)):=by
   repeat' refine Ext.setN ?_ (by simp)
   exact hEx
  have X':o7 (((w7.setCell ⟨w.heap.size+1,1,none⟩ (.string ⟨(List.take (D8 l) (List.drop 16 l)).toArray⟩)).setCell ⟨w.heap.size+1,2,none⟩ (.string ⟨(List.take (H5 l) (List.drop (16+D8 l) l)).toArray⟩)).setCell ⟨w.heap.size+1,3,none⟩ (.bool true)) w.heap.size 111 #[.int .u64 0,.string ⟨#[]⟩,.string ⟨#[]⟩,.bool false]:=by
   repeat' refine o7.setOther ?_ (by simp) _
   exact X
  have Y':o7 (((w7.setCell ⟨w.heap.size+1,1,none⟩ (.string ⟨(List.take (D8 l) (List.drop 16 l)).toArray⟩)).setCell ⟨w.heap.size+1,2,none⟩ (.string ⟨(List.take (H5 l) (List.drop (16+D8 l) l)).toArray⟩)).setCell ⟨w.heap.size+1,3,none⟩ (.bool true)) (w.heap.size+1) 111 #[.int .u64 (num ((l.drop 4).take 8)),.string ⟨(List.take (D8 l) (List.drop 16 l)).toArray⟩,.string ⟨(List.take (H5 l) (List.drop (16+D8 l) l)).toArray⟩,.bool true]:=
   ((Y.set 1 _).set 2 _).set 3 _
  go_wp2_with fail
  refine(sum_any _ _ _ (HS.out _ hEx')).mono ?_;rintro e w8 ⟨rfl,hw⟩;rw[hw] at X' Y' hEx';clear hw X Y hEx;clear xc0 xc1 xc2 xc3 xf0 xf1 xf2 xf3 yc1 yc2 yc3 yf1 yf2 yf3;have xc0:=X'.cell 0;have xc1:=X'.cell 1;have xc2:=X'.cell 2;have xc3:=X'.cell 3;have xf0:=X'.free 0;have xf1:=X'.free 1;have xf2:=X'.free 2;have xf3:=X'.free 3;have yc0:=Y'.cell 0;have yc1:=Y'.cell 1;have yc2:=Y'.cell 2;have yc3:=Y'.cell 3;have hwc:IntKind.u64.wrap (crc ((l.take (16+D8 l+H5 l)).drop 4):Int)=(crc ((l.take (16+D8 l+H5 l)).drop 4):Int):=by
   have:=a4e ((l.take (16+D8 l+H5 l)).drop 4);rw[IntKind.wrap_u64];omega
  by_cases hcr:crc ((l.take (16+D8 l+H5 l)).drop 4)=num (l.take 4)
  ·have hcr':((crc ((l.take (16+D8 l+H5 l)).drop 4):Int) != (num (l.take 4):Int))=false:=by rw[bne,beq_iff_eq.2 (by omega)];rfl
   go_wp2;refine bodyPost_ret (v:=a1w (some ⟨num ((l.drop 4).take 8),(l.drop 16).take (D8 l),(l.drop (16+D8 l)).take (H5 l),true,16+D8 l+H5 l⟩)) ?_ rfl ⟨?_,?_⟩
   ·simp[results,Tryz.results71,go_sem,xc0,xc1,xc2,xc3,a1w,a0l,X6]
   ·unfold dec;rw[if_pos (by unfold good;rw[decide_eq_true hlen,decide_eq_true hcr,decide_eq_true (show P7 l<=1 by omega),decide_eq_true (show 1<=D8 l by omega),decide_eq_true (show D8 l<=16 by omega),decide_eq_true (show H5 l<=64 by omega),decide_eq_false (show ¬0<H5 l by omega),Bool.and_false];rfl)];simp[hf]
   ·repeat' refine Ext.setN ?_ (by simp)
    exact hEx'
  ·have hcr':((crc ((l.take (16+D8 l+H5 l)).drop 4):Int) != (num (l.take 4):Int))=true:=by rw[bne,beq_eq_false_iff_ne.2 (by omega)];rfl
   have hd:dec l=none:=HD (by unfold good;rw[decide_eq_false hcr];simp);go_wp2;refine bodyPost_ret (v:=a1w none) ?_ rfl ⟨by rw[hd],?_⟩
   ·simp[results,Tryz.results71,go_sem,xc0,xc1,xc2,xc3,a1w,a0l,X6]
   ·repeat' refine Ext.setN ?_ (by simp)
    exact hEx'
 ·have hf1:((P7 l:Int)==1)=false:=beq_eq_false_iff_ne.2 (by omega);have hsl:∀W:World,Below w.heap.size w W->Bytes W (.slice (a.map (fun x=>⟨x.block,x.off+4,none⟩)) (16+D8 l+H5 l - 4) (cap - 4)) ((l.take (16+D8 l+H5 l)).drop 4):=by
   intro W hW;have:=((HL.out.below hW).sliced 4 (16+D8 l+H5 l) (by omega) (by omega)).1;rw[if_neg (by omega)] at this;exact this
  have HS:=Lib.hid hsl;clear hsl;have hcap:16+D8 l+H5 l<=cap:=by omega
  have hm1:num (l.take 4)<4294967296:=O3 l 4;have hEx':Ext w (((w7.setCell ⟨w.heap.size+1,1,none⟩ (.string ⟨(List.take (D8 l) (List.drop 16 l)).toArray⟩)).setCell ⟨w.heap.size+1,2,none⟩ (.string ⟨(List.take (H5 l) (List.drop (16+D8 l) l)).toArray⟩)).setCell ⟨w.heap.size+1,3,none⟩ (.bool false)):=by
   repeat' refine Ext.setN ?_ (by simp)
   exact hEx
  have X':o7 (((w7.setCell ⟨w.heap.size+1,1,none⟩ (.string ⟨(List.take (D8 l) (List.drop 16 l)).toArray⟩)).setCell ⟨w.heap.size+1,2,none⟩ (.string ⟨(List.take (H5 l) (List.drop (16+D8 l) l)).toArray⟩)).setCell ⟨w.heap.size+1,3,none⟩ (.bool false)) w.heap.size 111 #[.int .u64 0,.string ⟨#[]⟩,.string ⟨#[]⟩,.bool false]:=by
   repeat' refine o7.setOther ?_ (by simp) _
   exact X
  have Y':o7 (((w7.setCell ⟨w.heap.size+1,1,none⟩ (.string ⟨(List.take (D8 l) (List.drop 16 l)).toArray⟩)).setCell ⟨w.heap.size+1,2,none⟩ (.string ⟨(List.take (H5 l) (List.drop (16+D8 l) l)).toArray⟩)).setCell ⟨w.heap.size+1,3,none⟩ (.bool false)) (w.heap.size+1) 111 #[.int .u64 (num ((l.drop 4).take 8)),.string ⟨(List.take (D8 l) (List.drop 16 l)).toArray⟩,.string ⟨(List.take (H5 l) (List.drop (16+D8 l) l)).toArray⟩,.bool false]:=
   ((Y.set 1 _).set 2 _).set 3 _
  go_wp2_with fail
  refine(sum_any _ _ _ (HS.out _ hEx')).mono ?_;rintro e w8 ⟨rfl,hw⟩;rw[hw] at X' Y' hEx';clear hw X Y hEx;clear xc0 xc1 xc2 xc3 xf0 xf1 xf2 xf3 yc1 yc2 yc3 yf1 yf2 yf3;have xc0:=X'.cell 0;have xc1:=X'.cell 1;have xc2:=X'.cell 2;have xc3:=X'.cell 3;have xf0:=X'.free 0;have xf1:=X'.free 1;have xf2:=X'.free 2;have xf3:=X'.free 3;have yc0:=Y'.cell 0;have yc1:=Y'.cell 1;have yc2:=Y'.cell 2;have yc3:=Y'.cell 3;have hwc:IntKind.u64.wrap (crc ((l.take (16+D8 l+H5 l)).drop 4):Int)=(crc ((l.take (16+D8 l+H5 l)).drop 4):Int):=by
   have:=a4e ((l.take (16+D8 l+H5 l)).drop 4);rw[IntKind.wrap_u64];omega
  by_cases hcr:crc ((l.take (16+D8 l+H5 l)).drop 4)=num (l.take 4)
  ·have hcr':((crc ((l.take (16+D8 l+H5 l)).drop 4):Int) != (num (l.take 4):Int))=false:=by rw[bne,beq_iff_eq.2 (by omega)];rfl
   go_wp2;refine bodyPost_ret (v:=a1w (some ⟨num ((l.drop 4).take 8),(l.drop 16).take (D8 l),(l.drop (16+D8 l)).take (H5 l),false,16+D8 l+H5 l⟩)) ?_ rfl ⟨?_,?_⟩
   ·simp[results,Tryz.results71,go_sem,xc0,xc1,xc2,xc3,a1w,a0l,X6]
   ·unfold dec;rw[if_pos (by unfold good;rw[decide_eq_true hlen,decide_eq_true hcr,decide_eq_true (show P7 l<=1 by omega),decide_eq_true (show 1<=D8 l by omega),decide_eq_true (show D8 l<=16 by omega),decide_eq_true (show H5 l<=64 by omega),decide_eq_false hf];rfl)];simp[hf]
   ·repeat' refine Ext.setN ?_ (by simp)
    exact hEx'
  ·have hcr':((crc ((l.take (16+D8 l+H5 l)).drop 4):Int) != (num (l.take 4):Int))=true:=by rw[bne,beq_eq_false_iff_ne.2 (by omega)];rfl
   have hd:dec l=none:=HD (by unfold good;rw[decide_eq_false hcr];simp);go_wp2;refine bodyPost_ret (v:=a1w none) ?_ rfl ⟨by rw[hd],?_⟩
   ·simp[results,Tryz.results71,go_sem,xc0,xc1,xc2,xc3,a1w,a0l,X6]
   ·repeat' refine Ext.setN ?_ (by simp)
    exact hEx'
end
section
open Go.RowKit Go.Lib Pl
structure Off(g:Nat)(w w':World):Prop where
 os:w'.os=w.os
 tape:w'.tape=w.tape
 output:w'.output=w.output
 size:w'.heap.size=w.heap.size
 block:∀k,k≠g->w'.heap[k]?=w.heap[k]?
theorem Off.refl(g:Nat)(w:World):Off g w w:=⟨rfl,rfl,rfl,rfl,fun _ _=>rfl⟩
theorem Off.trans{g:Nat}{a b c:World}(h:Off g a b)(k:Off g b c):Off g a c:=
 ⟨k.os.trans h.os,k.tape.trans h.tape,k.output.trans h.output,k.size.trans h.size,fun i hi=>(k.block i hi).trans (h.block i hi)⟩
theorem Off.setCell{g:Nat}{w w':World}(h:Off g w w')(i:Nat)(u:Value):Off g w (w'.setCell ⟨g,i,none⟩ u):=by
 refine h.trans ⟨rfl,rfl,rfl,by simp[World.setCell],fun k hk=>?_⟩;simp[World.setCell,Array.getElem?_modify,Ne.symm hk]
theorem Off.below{g B:Nat}{w w':World}(h:Off g w w')(hB:B<=g):Below B w w':=
 ⟨h.os,h.tape,h.output,Nat.le_of_eq h.size.symm,fun k hk=>h.block k (by omega)⟩
theorem Off.box{g n:Nat}{w w':World}(h:Off g w w'){t:TypeId}{cs:Array Value}(hb:o7 w n t cs)(hn:n≠g):o7 w' n t cs:=(h.block n hn).trans hb
end
end Go.Proofs.YtgpbhjjajpbeeaaGreatDoor
