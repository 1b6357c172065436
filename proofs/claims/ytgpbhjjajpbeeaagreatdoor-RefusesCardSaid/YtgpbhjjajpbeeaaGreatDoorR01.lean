/- A part of what the last file proves. -/
import Derived.Test.YtgpbhjjajpbeeaaGreatDoorProg
import Derived.WalkKit
import Derived.WalkSpells
import Derived.WalkLawsBesides
import Derived.Lib.Hide
import Derived.OneCell
import Derived.Lib.Strings
import Derived.Lib.AppendStr
import Derived.Laws.CopyOwn
import Derived.LaidEql
import Derived.Stop.Asserts
import Derived.RowKitTokens
import Derived.BigQuiet
import Derived.Deep.QuietTactic
import Derived.Deep.RegionHeld3
import Derived.Deep.AppendLies
import Derived.Deep.RegionLaw
set_option linter.all false
set_option maxRecDepth 100000
set_option maxHeartbeats 4000000
namespace Go.Proofs.YtgpbhjjajpbeeaaGreatDoor
namespace Pl
def a1g(c:Nat):Nat:=(c/2) ^^^ (if c%2=1 then 3988292384 else 0)
def a0f:Nat->Nat->Nat
 | 0,c=>c
 | n+1,c=>a0f n (a1g c)
def a1K(c:Nat)(b:UInt8):Nat:=a0f 8 (c ^^^ b.toNat)
def X8(c:Nat)(l:List UInt8):Nat:=l.foldl a1K c
def crc(l:List UInt8):Nat:=X8 4294967295 l ^^^ 4294967295
theorem a8K{a b:Nat}(ha:a<4294967296)(hb:b<4294967296):a ^^^ b<4294967296:=
 Nat.xor_lt_two_pow (n:=32) ha hb
theorem b7s{c:Nat}(h:c<4294967296):a1g c<4294967296:=by
 unfold a1g;split<;>exact a8K (by omega) (by omega)
theorem a5b(n:Nat):∀{c:Nat},c<4294967296->a0f n c<4294967296:=by
 induction n with
 | zero=>intro c h;exact h
 | succ n ih=>intro c h;exact ih (b7s h)
theorem a5G(n:Nat):∀c:Nat,a0f (n+1) c=a1g (a0f n c):=by
 induction n with
 | zero=>intro c;rfl
 | succ n ih=>intro c;exact ih (a1g c)
theorem b4C{c:Nat}(h:c<4294967296)(b:UInt8):a1K c b<4294967296:=
 a5b 8 (a8K h (by have:=b.toNat_lt;omega))
theorem a2f(l:List UInt8):∀{c:Nat},c<4294967296->X8 c l<4294967296:=by
 induction l with
 | nil=>intro c h;exact h
 | cons b l ih=>intro c h;exact ih (b4C h b)
theorem a4a(l:List UInt8):crc l<4294967296:=a8K (a2f l (by omega)) (by omega)
theorem a5H(c:Nat)(l:List UInt8)(b:UInt8):X8 c (l++[b])=a1K (X8 c l) b:=by
 simp[X8]
theorem take_snoc{α:Type}(l:List α)(k:Nat)(h:k<l.length):l.take (k+1)=l.take k++[l[k]]:=by
 rw[List.take_succ_eq_append_getElem h]
def be(n:Nat):Nat->List UInt8
 | 0=>[]
 | k+1=>UInt8.ofNat (n/256^k)::be n k
theorem I4(n k:Nat):(be n k).length=k:=by
 induction k with
 | zero=>rfl
 | succ k ih=>simp[be,ih]
theorem c1T(n j:Nat):((n:Int)/2^(8*(j:Int)).toNat)%256=((UInt8.ofNat (n/256^j)).toNat:Int):=by
 have h1:(8*(j:Int)).toNat=8*j:=by omega
 have h2:(2:Nat)^(8*j)=256^j:=by rw[Nat.pow_mul]
 rw[h1,show((2:Int)^(8*j))=((2^(8*j):Nat):Int) by push_cast;rfl,h2];simp
def body(seq:Nat)(k v:List UInt8)(d:Bool):List UInt8:=be seq 8++be (if d then 1 else 0) 1++be k.length 1++be v.length 2++k++v
def summed(l:List UInt8):List UInt8:=be (crc l) 4++l
def num(l:List UInt8):Nat:=l.foldl (fun n b=>n*256+b.toNat) 0
theorem a8L(l:List UInt8)(b:UInt8):num (l++[b])=num l*256+b.toNat:=by simp[num]
theorem b9Z(l:List UInt8):∀n,l.foldl (fun n b=>n*256+b.toNat) n=n*256^l.length+num l:=by
 induction l with
 | nil=>intro n;simp[num]
 | cons b l ih=>
  intro n;simp only[List.foldl_cons,num];rw[ih,ih (0*256+b.toNat)];simp only[List.length_cons,Nat.pow_succ];rw[Nat.add_mul,Nat.zero_mul,Nat.zero_add,Nat.add_assoc,Nat.mul_assoc,Nat.mul_comm 256]
theorem b90(b:UInt8)(l:List UInt8):num (b::l)=b.toNat*256^l.length+num l:=by
 have:=b9Z l (0*256+b.toNat);simpa [num] using this
theorem b1y(l:List UInt8):num l<256^l.length:=by
 induction l with
 | nil=>simp[num]
 | cons b l ih=>
  rw[b90,List.length_cons,Nat.pow_succ];have:=b.toNat_lt;have h1:b.toNat*256^l.length<=255*256^l.length:=Nat.mul_le_mul_right _ (by omega);omega
theorem b91(n j:Nat):((n:Int)/2^(8*j))%256=((UInt8.ofNat (n/256^j)).toNat:Int):=by
 have:=c1T n j;rw[show(8*(j:Int)).toNat=8*j by omega] at this;exact this
structure Rec where
 seq:Nat
 key:List UInt8
 val:List UInt8
 del:Bool
 size:Nat
def D7(l:List UInt8):Nat:=num ((l.drop 13).take 1)
def H6(l:List UInt8):Nat:=num ((l.drop 14).take 2)
def P8(l:List UInt8):Nat:=num ((l.drop 12).take 1)
def good(l:List UInt8):Bool:=
 decide (16+D7 l+H6 l<=l.length)&&(decide (P8 l<=1)&&(decide (1<=D7 l)&&(decide (D7 l<=16)&&(decide (H6 l<=64)&&(!(decide (P8 l=1)&&decide (0<H6 l)) &&
  decide (crc ((l.take (16+D7 l+H6 l)).drop 4)=num (l.take 4)))))))
def dec(l:List UInt8):Option Rec:=
 if good l=true then some ⟨num ((l.drop 4).take 8),(l.drop 16).take (D7 l),(l.drop (16+D7 l)).take (H6 l),decide (P8 l=1),16+D7 l+H6 l⟩ else none
def rdN(s:List UInt8×Bool)(n:Nat):Nat×(List UInt8×Bool):=
 if s.2=true\/s.1.length<n then(0,(s.1,true)) else(num (s.1.take n),(s.1.drop n,false))
def rdT(s:List UInt8×Bool)(n:Nat):List UInt8×(List UInt8×Bool):=
 if s.2=true\/s.1.length<n then([],(s.1,true)) else(s.1.take n,(s.1.drop n,false))
theorem a0w(x:List UInt8)(n:Nat):rdN (x,true) n=(0,(x,true)):=by simp[rdN]
theorem b1z(x:List UInt8)(n:Nat):rdT (x,true) n=([],(x,true)):=by simp[rdT]
theorem a0x{x:List UInt8}{n:Nat}(h:x.length<n):rdN (x,false) n=(0,(x,true)):=by simp[rdN,h]
theorem b0s{x:List UInt8}{n:Nat}(h:x.length<n):rdT (x,false) n=([],(x,true)):=by simp[rdT,h]
theorem a3n{x:List UInt8}{n:Nat}(h:n<=x.length):rdN (x,false) n=(num (x.take n),(x.drop n,false)):=by
 have:¬x.length<n:=by omega
 simp[rdN,this]
theorem b92{x:List UInt8}{n:Nat}(h:n<=x.length):rdT (x,false) n=(x.take n,(x.drop n,false)):=by
 have:¬x.length<n:=by omega
 simp[rdT,this]
theorem O0(l:List UInt8)(k:Nat):num (l.take k)<256^k:=
 Nat.lt_of_lt_of_le (b1y _) (Nat.pow_le_pow_right (by omega) (by rw[List.length_take];omega))
theorem c3V{l:List UInt8}{m1 m2 fl k v:Nat}{key val:List UInt8}{s1 s2 s3 s4 s5 s6 s7:List UInt8×Bool}
 (e1:(m1,s1)=rdN (l,false) 4)(e2:(m2,s2)=rdN s1 8)(e3:(fl,s3)=rdN s2 1)(e4:(k,s4)=rdN s3 1)(e5:(v,s5)=rdN s4 2)(e6:(key,s6)=rdT s5 k)(e7:(val,s7)=rdT s6 v):
 k<256/\v<65536/\((s7.2=true/\l.length<16+D7 l+H6 l)\/(s7.2=false/\16+D7 l+H6 l<=l.length/\m1=num (l.take 4)/\m2=num ((l.drop 4).take 8)/\fl=P8 l/\k=D7 l/\v=H6 l/\
  key=(l.drop 16).take k/\val=(l.drop (16+k)).take v)):=by
 have bad7:∀{x:List UInt8},s5=(x,true)->k<256->v<65536->l.length<16->k<256/\v<65536/\((s7.2=true/\l.length<16+D7 l+H6 l)\/(s7.2=false/\16+D7 l+H6 l<=l.length/\m1=num (l.take 4)/\m2=num ((l.drop 4).take 8)/\fl=P8 l/\k=D7 l/\v=H6 l/\
  key=(l.drop 16).take k/\val=(l.drop (16+k)).take v)):=by
  intro x hx hk hv hl;subst hx;rw[b1z] at e6;injection e6 with _ e6;subst e6;rw[b1z] at e7;injection e7 with _ e7;subst e7;exact⟨hk,hv,.inl ⟨rfl,by omega⟩⟩
 by_cases h4:l.length<4
 ·rw[a0x h4] at e1;injection e1 with _ e1;subst e1;rw[a0w] at e2;injection e2 with _ e2;subst e2;rw[a0w] at e3;injection e3 with _ e3;subst e3;rw[a0w] at e4;injection e4 with e4' e4;subst e4;subst e4';rw[a0w] at e5;injection e5 with e5' e5;subst e5';exact bad7 e5 (by omega) (by omega) (by omega)
 rw[a3n (by omega)] at e1;injection e1 with f1 e1;subst e1;by_cases h12:l.length<12
 ·rw[a0x (by simp;omega)] at e2;injection e2 with _ e2;subst e2;rw[a0w] at e3;injection e3 with _ e3;subst e3;rw[a0w] at e4;injection e4 with e4' e4;subst e4;subst e4';rw[a0w] at e5;injection e5 with e5' e5;subst e5';exact bad7 e5 (by omega) (by omega) (by omega)
 rw[a3n (by simp;omega)] at e2;injection e2 with f2 e2;subst e2;by_cases h13:l.length<13
 ·rw[a0x (by simp;omega)] at e3;injection e3 with _ e3;subst e3;rw[a0w] at e4;injection e4 with e4' e4;subst e4;subst e4';rw[a0w] at e5;injection e5 with e5' e5;subst e5';exact bad7 e5 (by omega) (by omega) (by omega)
 rw[a3n (by simp;omega)] at e3;injection e3 with f3 e3;subst e3;by_cases h14:l.length<14
 ·rw[a0x (by simp;omega)] at e4;injection e4 with e4' e4;subst e4;subst e4';rw[a0w] at e5;injection e5 with e5' e5;subst e5';exact bad7 e5 (by omega) (by omega) (by omega)
 rw[a3n (by simp;omega)] at e4;injection e4 with f4 e4;subst e4;have hk:k<256:=by rw[f4];exact O0 _ 1
 by_cases h16:l.length<16
 ·rw[a0x (by simp;omega)] at e5;injection e5 with e5' e5;subst e5';exact bad7 e5 hk (by omega) (by omega)
 rw[a3n (by simp;omega)] at e5;injection e5 with f5 e5;subst e5;have hv:v<65536:=by rw[f5];exact O0 _ 2
 simp only[List.drop_drop,Nat.reduceAdd] at *;have gk:k=D7 l:=f4;have gv:v=H6 l:=f5;refine⟨hk,hv,?_⟩;by_cases hk2:l.length<16+k
 ·rw[b0s (by simp;omega)] at e6;injection e6 with _ e6;subst e6;rw[b1z] at e7;injection e7 with _ e7;subst e7;exact .inl ⟨rfl,by omega⟩
 rw[b92 (by simp;omega)] at e6;injection e6 with f6 e6;subst e6;by_cases hv2:l.length<16+k+v
 ·rw[b0s (by simp;omega)] at e7;injection e7 with _ e7;subst e7;exact .inl ⟨rfl,by omega⟩
 rw[b92 (by simp;omega)] at e7;injection e7 with f7 e7;subst e7;exact .inr ⟨rfl,by omega,f1,f2,f3,gk,gv,f6,by rw[f7,List.drop_drop]⟩
theorem b0t(b:UInt8):b.toNat<256:=b.toNat_lt
end Pl
section
open Go.RowKit Go.Lib
theorem J3(s:ByteArray):s.data.toList.length=s.size:=by rw[Array.length_toList];rfl
theorem a5v(s:ByteArray):s.toList.isEmpty=decide (s.size=0):=by
 rw[Lib.toList_data,<-J3];cases s.data.toList<;>simp
def a2r(w:World)(a:Addr)(xs:List Value):Prop:=∀i x,xs[i]?=some x->w.cell? (a.add i)=some x
def a0k(w:World)(v:Value)(n:Nat)(xs:List Value):Prop:=
 ∃(a:Option Addr)(cap:Nat),v=.slice a n cap/\n<=cap/\(cap<=9223372036854775807/\(a=none->cap=0))/\(xs≠[]->∃b,a=some b/\a2r w b xs)
def byteV(b:UInt8):Value:=.int .u8 b.toNat
theorem a0O(l:List UInt8):∀u∈l.map byteV,u.oneCell'=true:=by
 intro u hu;obtain⟨b,_,rfl⟩:=List.mem_map.1 hu;rfl
def Bytes(w:World)(v:Value)(l:List UInt8):Prop:=a0k w v l.length (l.map byteV)
def Ints(w:World)(v:Value)(l:List Int):Prop:=a0k w v l.length (l.map (Value.int .i64))
abbrev Ext(w w':World):Prop:=Below w.heap.size w w'
theorem Ext.refl(w:World):Ext w w:=Below.refl _ _
theorem Ext.trans{a b c:World}(h:Ext a b)(k:Ext b c):Ext a c:=Below.trans h (k.mono h.size)
theorem Ext.drewN(w:World)(n:Nat):Ext w (w.drewN n):=by
 induction n with
 | zero=>exact Ext.refl w
 | succ n ih=>exact Below.drew ih
theorem Ext.cell{w w':World}(h:Ext w w'){a:Addr}{v:Value}(hc:w.cell? a=some v):w'.cell? a=some v:=
 (Below.cell h (World.block_lt_of_cell? w a hc)).trans hc
theorem Ext.new{w w':World}(h:Ext w w')(o:Obj):Ext w (w'.alloc o):=Below.alloc h h.size o
theorem a2r.ext{w w':World}(h:Ext w w'){a:Addr}{xs:List Value}(hc:a2r w a xs):a2r w' a xs:=
 fun i x hx=>h.cell (hc i x hx)
theorem a0k.ext{w w':World}(h:Ext w w'){v:Value}{n:Nat}{xs:List Value}(hs:a0k w v n xs):a0k w' v n xs:=by
 obtain⟨a,cap,rfl,h1,h2,h3⟩:=hs;exact⟨a,cap,rfl,h1,h2,fun hx=>let ⟨b,hb,hc⟩:=h3 hx;⟨b,hb,hc.ext h⟩⟩
theorem Bytes.ext{w w':World}(h:Ext w w'){v:Value}{l:List UInt8}(hs:Bytes w v l):Bytes w' v l:=a0k.ext h hs
theorem Ints.ext{w w':World}(h:Ext w w'){v:Value}{l:List Int}(hs:Ints w v l):Ints w' v l:=a0k.ext h hs
theorem Bytes.open{w:World}{v:Value}{l:List UInt8}(h:Bytes w v l):
 ∃(a:Option Addr)(cap:Nat),v=.slice a l.length cap/\l.length<=cap/\cap<=9223372036854775807/\
  ∀i,(hi:i<l.length)->∃b,a=some b/\w.cell? (b.add i)=some (.int .u8 (l[i]).toNat):=by
 obtain⟨a,cap,rfl,h1,h2,h3⟩:=h;refine⟨a,cap,rfl,h1,h2.1,fun i hi=>?_⟩;obtain⟨b,hb,hc⟩:=h3 (by intro e;simp at e;subst e;simp at hi);exact⟨b,hb,hc i _ (by simp[hi,byteV])⟩
theorem Ints.open{w:World}{v:Value}{l:List Int}(h:Ints w v l):
 ∃(a:Option Addr)(cap:Nat),v=.slice a l.length cap/\l.length<=cap/\cap<=9223372036854775807/\
  ∀i,(hi:i<l.length)->∃b,a=some b/\w.cell? (b.add i)=some (.int .i64 l[i]):=by
 obtain⟨a,cap,rfl,h1,h2,h3⟩:=h;refine⟨a,cap,rfl,h1,h2.1,fun i hi=>?_⟩;obtain⟨b,hb,hc⟩:=h3 (by intro e;simp at e;subst e;simp at hi);exact⟨b,hb,hc i _ (by simp[hi])⟩
theorem a4m:(Tryz.prog.info? 5).map (fun i=>(i.zero,i.size,i.bytes))=some (some (.int .u8 0),1,1):=by kernel_rfl
theorem a8t:(Tryz.prog.info? 3).map (fun i=>(i.zero,i.size,i.bytes))=some (some (.int .i64 0),1,8):=by kernel_rfl
theorem ownsRow_ne{w:World}{base:Nat}{e t:TypeId}{size:Nat}{v:Value}{n:Nat}{xs:List Value}(h:w.ownsRow base e size v n xs)
 {b:Nat}{cs:Array Value}{fr:Nat×Nat}(hb:w.heap[b]?=some (.cells cs t fr))(ht:t≠e):v.ownBlock≠some b:=by
 rcases h.2 with⟨rfl,_⟩|⟨g,cap,cur,rfl,hg,hh,r⟩
 ·simp[Value.ownBlock]
 ·intro e';simp only[Value.ownBlock,Option.some.injEq] at e';subst e';rw[hb] at hh;injection hh with hh;injection hh with _ h2 _;exact ht h2
theorem ownsRow_form{w:World}{base:Nat}{e:TypeId}{size:Nat}{v:Value}{n:Nat}{xs:List Value}(h:w.ownsRow base e size v n xs):∃(a:Option Addr)(c:Nat),v=.slice a n c:=by
 rcases h.2 with⟨rfl,rfl⟩|⟨g,cap,cur,rfl,r⟩
 ·exact⟨none,0,rfl⟩
 ·exact⟨_,_,rfl⟩
theorem a8u(s:ByteArray):strCells s=s.data.toList.map byteV:=rfl
def OwnB(w:World)(B:Nat)(v:Value)(l:List UInt8):Prop:=w.ownsRow B 5 1 v l.length (l.map byteV)
theorem OwnB.bytes{w:World}{B:Nat}{v:Value}{l:List UInt8}(h:OwnB w B v l):Bytes w v l:=by
 have hh:=h;rcases h.2 with⟨rfl,h0⟩|⟨g,cap,cur,rfl,hb,hg,h1,h2,h3,h4⟩
 ·have:l=[]:=List.eq_nil_of_length_eq_zero h0;subst this;exact⟨none,0,rfl,by simp,⟨by omega,fun _=>rfl⟩,by simp⟩
 ·exact⟨some ⟨g,0,none⟩,cap,rfl,h1,⟨by unfold maxLen at h2;omega,fun h=>by cases h⟩,fun _=>⟨_,rfl,fun i x hx=>hh.cells rfl i x hx⟩⟩
theorem O8{w:World}{base base':Nat}{e:TypeId}{size:Nat}{v:Value}{n:Nat}{xs:List Value}(h:w.ownsRow base e size v n xs)(hb:base'<=base):w.ownsRow base' e size v n xs:=by
 obtain⟨h1,h2⟩:=h;refine⟨h1,?_⟩;rcases h2 with h2|⟨g,cap,cur,rfl,hg,hh,r⟩
 ·exact Or.inl h2
 ·exact Or.inr ⟨g,cap,cur,rfl,Nat.le_trans hb hg,hh,r⟩
theorem ownsRow_below{w w':World}{base:Nat}{e:TypeId}{size:Nat}{v:Value}{n:Nat}{xs:List Value}(h:w.ownsRow base e size v n xs)
 (hb:Below w.heap.size w w'):w'.ownsRow base e size v n xs:=by
 obtain⟨h1,h2⟩:=h;refine⟨h1,?_⟩;rcases h2 with h2|⟨g,cap,cur,rfl,hg,hh,r⟩
 ·exact Or.inl h2
 ·exact Or.inr ⟨g,cap,cur,rfl,hg,(hb.block g (lt_of_block hh)).trans hh,r⟩
theorem a2r.drop{w:World}{a:Addr}{xs:List Value}(h:a2r w a xs)(k:Nat):a2r w (a.add k) (xs.drop k):=by
 intro i x hx;have e:(a.add k).add i=a.add (k+i):=by
  unfold Addr.add;split<;>split<;>(try split)<;>simp_all<;>omega
 rw[e];exact h _ _ (by rw[<-List.getElem?_drop];exact hx)
theorem Bytes.sliced{w:World}{a:Option Addr}{n cap:Nat}{l:List UInt8}(h:Bytes w (.slice a n cap) l)(i j:Nat)(hij:i<=j)(hj:j<=l.length):
 Bytes w (.slice (if cap=i then a else a.map (·.add i)) (j - i) (cap - i)) ((l.take j).drop i):=by
 obtain⟨a',c,hv,h1,h2,h3⟩:=h;injection hv with ha hn hc;subst ha;subst hc;have hlen:((l.take j).drop i).length=j - i:=by rw[List.length_drop,List.length_take];omega
 unfold Bytes;rw[hlen];refine⟨_,_,rfl,by omega,⟨by omega,fun hn=>?_⟩,fun hx=>?_⟩
 ·have:a=none:=by
   cases a with
   | none=>rfl
   | some b=>split at hn<;>simp at hn
  have:=h2.2 this;omega
 have hne:l.map byteV≠[]:=by intro e;apply hx;simp at e;subst e;simp
 obtain⟨b,hb,hcell⟩:=h3 hne;subst hb;by_cases hci:cap=i
 ·exfalso;apply hx;apply List.eq_nil_of_length_eq_zero;rw[List.length_map,hlen];omega
 ·refine⟨b.add i,by simp[hci],?_⟩;intro m x hm;refine a2r.drop hcell i m x ?_;rw[List.getElem?_drop] at *;simp only[List.getElem?_map,List.getElem?_take,List.getElem?_drop] at hm⊢;split at hm
  ·exact hm
  ·simp at hm
theorem a3Q{P:Program}(w:World)(base:Nat)(t ty e:TypeId)(i:TypeInfo)(z:Value)(size bytes:Nat)(ht:P.underlying t=some (.slice e))(hi:P.info? e=some i)(hz:i.zero=some z)
 (hsize:i.size=size)(hby:i.bytes=bytes)(hzs:z.cells.size=size)(hsz:0<size)
 (v:Value)(n:Nat)(xs:List Value)(hown:w.ownsRow base e size v n xs)(x:Value)(m:Nat)(news:List Value)(hx:a0k w x m news)(hl:news.length=m*size)(h1:∀u∈news,u.oneCell'=true)
 (h63:n+m<=maxLen)(hbytes:(n+m)*bytes<=140737488355328)(hbase:base<=w.heap.size):
 ∃v' w',(Builtin.append_ #[t,t] ty #[v,x]).run P w=.ok v' w'/\w'.ownsRow base e size v' (n+m) (xs++news)/\w.grownBy w' v.ownBlock/\(v'.ownBlock=v.ownBlock\/v'.ownBlock=some w.heap.size):=by
 obtain⟨a,c,rfl,hc1,⟨hc2,hc3⟩,hc⟩:=hx
 cases a with
 | none=>
  obtain rfl:=hc3 rfl;obtain rfl:m=0:=by omega
  obtain rfl:news=[]:=List.eq_nil_of_length_eq_zero (by simpa using hl)
  exact⟨v,w,run_append_owned_none (P:=P) (w:=w) base t ty e i size ht hi v n xs hown,by simpa using hown,World.grownBy.refl w _,.inl rfl⟩
 | some ad=>
  have hcell:∀j u,news[j]?=some u->w.cell? (ad.add j)=some u:=by
   intro j u hu;obtain⟨b,hb,hcc⟩:=hc (by intro e;subst e;simp at hu);injection hb with hb;subst hb;exact hcc j u hu
  obtain⟨v',w',r1,r2,r3,_,r5⟩:=run_append_own_at (P:=P) w base t ty e i z size bytes ht hi hz hsize hby hzs hsz v n xs hown ad m c news hl hcell h1 h63 hbytes hbase;exact⟨v',w',r1,r2,r3,r5⟩
theorem H5{P:Program}{w:World}{ops:Array Oper}{rest:List Oper}{o:Oper}{a:Act}{Q:Exit->Act->World->Prop}(hgd:o.guard=none)(s x:Operand)(t:TypeId)
 (ho:o.op=.call {callee:=.builtin .append,args:=#[s,x],argTypes:=#[t,t]})
 (base:Nat)(e:TypeId)(i:TypeInfo)(z:Value)(size bytes:Nat)(ht:P.underlying t=some (.slice e))(hi:P.info? e=some i)(hz:i.zero=some z)
 (hsize:i.size=size)(hby:i.bytes=bytes)(hzs:z.cells.size=size)(hsz:0<size)
 (v:Value)(n:Nat)(xs:List Value)(hs:a.eval s=v)(hown:w.ownsRow base e size v n xs)(y:Value)(m:Nat)(news:List Value)(hy:a.eval x=y)(hx:a0k w y m news)(hl:news.length=m*size)(h1:∀u∈news,u.oneCell'=true)
 (h63:n+m<=maxLen)(hbytes:(n+m)*bytes<=140737488355328)(hbase:base<=w.heap.size)
 (h:∀b c w',w'.ownsRow base e size (.slice b (n+m) c) (n+m) (xs++news)->w.grownBy w' v.ownBlock->((Value.slice b (n+m) c).ownBlock=v.ownBlock\/(Value.slice b (n+m) c).ownBlock=some w.heap.size)->wpList P ops Q rest (a.put o.dst (.slice b (n+m) c)) w'):
 wpList P ops Q (o::rest) a w:=by
 refine wpList_plain hgd fun K hK=>?_;obtain⟨v',w',hrun,h2,h3,h4⟩:=a3Q (P:=P) w base t o.type e i z size bytes ht hi hz hsize hby hzs hsz v n xs hown y m news hx hl h1 h63 hbytes hbase;obtain⟨b,c,rfl⟩:=ownsRow_form h2;unfold Oper.wp execOp;simp only[ho,resolve,invoke,builtin,Sem.run_bind,Sem.run_pure,Result.andThen_ok,List.map_toArray,List.map_cons,List.map_nil,hs,hy,hrun];exact hK _ _ (h b c w' h2 h3 h4)
theorem wpList_append_text{P:Program}{w:World}{ops:Array Oper}{rest:List Oper}{o:Oper}{a:Act}{Q:Exit->Act->World->Prop}(hgd:o.guard=none)(sl x:Operand)(t u:TypeId)
 (ho:o.op=.call {callee:=.builtin .append,args:=#[sl,x],argTypes:=#[t,u]})
 (base:Nat)(e:TypeId)(i:TypeInfo)(ht:P.underlying t=some (.slice e))(hu:P.underlying u=some .string)(hi:P.info? e=some i)(hz:i.zero=some (.int .u8 0))
 (hsize:i.size=1)(hby:i.bytes=1)
 (v:Value)(l:List UInt8)(hs:a.eval sl=v)(hown:w.ownsRow base e 1 v l.length (l.map byteV))(s:ByteArray)(hx:a.eval x=.string s)
 (h63:l.length+s.size<=maxLen)(hbytes:l.length+s.size<=140737488355328)(hbase:base<=w.heap.size)
 (h:∀b c w',w'.ownsRow base e 1 (.slice b (l.length+s.size) c) (l++s.data.toList).length ((l++s.data.toList).map byteV)->w.grownBy w' v.ownBlock->wpList P ops Q rest (a.put o.dst (.slice b (l.length+s.size) c)) w'):wpList P ops Q (o::rest) a w:=by
 refine wpList_append_own_string w hgd sl x t u ho base e i ht hu hi hz hsize hby v l.length (l.map byteV) hs hown s hx h63 hbytes hbase ?_;intro v' w' h1 h2 _;obtain⟨b,c,rfl⟩:=ownsRow_form h1;refine h b c w' ?_ h2;rw[a8u,<-List.map_append] at h1;rw[show(l++s.data.toList).length=l.length+s.size by rw[List.length_append,J3]];exact h1
theorem OwnB.tail{w:World}{B g n cap k:Nat}{l:List UInt8}(h:OwnB w B (.slice (some ⟨g,0,none⟩) n cap) l)(hk:k<=l.length)(hk0:0<k):
 (cap≠k->Bytes w (.slice (some ⟨g,k,none⟩) (l.length - k) (cap - k)) (l.drop k))/\(cap=k->Bytes w (.slice (some ⟨g,0,none⟩) (l.length - k) 0) (l.drop k)):=by
 obtain⟨a,c,hv,h1,h2,h3⟩:=h.bytes;injection hv with ha hn hc;subst hc;constructor
 ·intro _;refine⟨_,_,by rw[List.length_drop],by rw[List.length_drop];omega,⟨by omega,fun h=>by cases h⟩,fun hx=>⟨_,rfl,fun i x hi=>?_⟩⟩;obtain⟨b,hb,hcell⟩:=h3 (by intro e;simp at e;subst e;simp at hx);rw[<-ha] at hb;injection hb with hb;have:=hcell (k+i) x (by rw[<-List.getElem?_drop,<-List.map_drop];exact hi);rw[<-hb] at this;have e:(⟨g,0,none⟩:Addr).add (k+i)=(⟨g,k,none⟩:Addr).add i:=by
   unfold Addr.add;split<;>(try split)<;>simp_all<;>omega
  rw[<-e];exact this
 ·intro e;have:l.length=k:=by omega
  refine⟨_,_,by rw[List.length_drop],by rw[List.length_drop];omega,⟨by omega,fun h=>by cases h⟩,fun hx=>?_⟩;exfalso;apply hx;simp;omega
end
section
open Go.RowKit Go.Extern.Stop Go.Stop Go.Extern
theorem methodKind(h:Value)(w:World):(Go.method 495 275 (.agg #[h]) "Kind").run Tryz.prog w=.ok (248,h) w:=by kernel_rfl
theorem methodElem(h:Value)(w:World):(Go.method 495 275 (.agg #[h]) "Elem").run Tryz.prog w=.ok (261,.agg #[h]) w:=by kernel_rfl
theorem methodImplements(h:Value)(w:World):(Go.method 495 275 (.agg #[h]) "Implements").run Tryz.prog w=.ok (262,.agg #[h]) w:=by kernel_rfl
theorem methodAssignableTo(h:Value)(w:World):(Go.method 495 275 (.agg #[h]) "AssignableTo").run Tryz.prog w=.ok (259,.agg #[h]) w:=by kernel_rfl
theorem rlm(z:Sem Value)(f:TypeId->Addr->Nat->Nat->Sem Value)(v:Value):
 ReflectliteValue.method z f #[v]=(do match <-ReflectliteValue.parts v with|none=>z|some (t,a,fl)=>f t a fl (fl%32)):=rfl
theorem rls(v x:Value):ReflectliteValue.set #[v,x]=(do
 let (some (dst,a,fl),some (src,b,_)):=(<-ReflectliteValue.parts v,<-ReflectliteValue.parts x)
  | unsupported (.noEntry "extern/(internal/reflectlite.Value).Set.zeroValue")
 if fl/ReflectliteValue.flagAddr%2==0 then unsupported (.noEntry "extern/(internal/reflectlite.Value).Set.unaddressable")
 let val <-loadVar src b
 if <-Rtype.directlyAssignable dst src then storeVar dst a val
 else if <-Rtype.implements dst src then
  if (<-Rtype.kind src)==20 then
   match val with
   | .nilIface=>unsupported (.noEntry "extern/reflectlite: a nil value of one interface type handed on as a value of another")
   | _=>storeVar dst a val
  else storeVar dst a (.iface src val)
 else panicString ("reflectlite.Set: value of type "++(<-Rtype.spelt src)++ " is not assignable to type "++(<-Rtype.spelt dst))
 pure (.tuple #[])):=rfl
theorem a9U(t:Addr)(w:World):(ReflectliteValue.unpack (.iface 162 (.pointer (some t)))).run Tryz.prog w
 = .ok (.agg #[.pointer (some ⟨7,162,none⟩),.pointer (some ⟨w.heap.size,0,none⟩),.int .u64 150]) (w.alloc (.cells #[.pointer (some t)] 162)):=by kernel_rfl
theorem b78(a:Addr)(w:World):(ReflectliteValue.methodAny (ReflectliteValue.valueError "reflectlite.Value.Type" 0) (fun t _ _ _=>ReflectliteType.toType t) #[.agg #[.pointer (some ⟨7,162,none⟩),.pointer (some a),.int .u64 150]]).run Tryz.prog w
 = .ok (.iface 275 (.agg #[.pointer (some ⟨7,162,none⟩)])) w:=by kernel_rfl
theorem b79(w:World):((ReflectliteType.abiMethod fun t=>Functor.map (fun a:Nat=>Value.int IntKind.u8 (a:Int)) (Rtype.kind t)) #[.pointer (some ⟨7,162,none⟩)]).run Tryz.prog w=.ok (.int .u8 22) w:=by kernel_rfl
theorem b8a(w:World):((ReflectliteType.abiMethod fun t=>Functor.map (fun a:Nat=>Value.int IntKind.u8 (a:Int)) (Rtype.kind t)) #[.pointer (some ⟨7,132,none⟩)]).run Tryz.prog w=.ok (.int .u8 22) w:=by kernel_rfl
theorem b5j(a:Addr)(w:World):(ReflectliteValue.parts (.agg #[.pointer (some ⟨7,162,none⟩),.pointer (some a),.int .u64 150])).run Tryz.prog w=.ok (some (162,a,150)) w:=by kernel_rfl
theorem b5k(a p:Addr)(W:World)(ha:W.cell? a=some (.pointer (some p))):
 (ReflectliteValue.method (ReflectliteValue.valueError "reflectlite.Value.IsNil" 0) ReflectliteValue.isNil #[.agg #[.pointer (some ⟨7,162,none⟩),.pointer (some a),.int .u64 150]]).run Tryz.prog W=.ok (.bool false) W:=by
 rw[rlm];simp only[Sem.run_bind,b5j,Result.andThen];simp[ReflectliteValue.isNil,loadVar,isAgg,underlying,Tryz.underlying162,ha,Result.andThen]
theorem b8b(w:World):(ReflectliteType.method ReflectliteType.elem #[.agg #[.pointer (some ⟨7,162,none⟩)]]).run Tryz.prog w=.ok (.iface 275 (.agg #[.pointer (some ⟨7,132,none⟩)])) w:=by kernel_rfl
theorem a5h(w:World):(ReflectliteType.relation "Implements" ReflectliteType.implements_ #[.agg #[.pointer (some ⟨7,132,none⟩)],.iface 275 (.agg #[.pointer (some ⟨7,34,none⟩)])]).run Tryz.prog w=.ok (.bool true) w:=by kernel_rfl
theorem b8c(v:Value)(w:World):(ReflectliteType.typeOf #[.iface 132 v]).run Tryz.prog w=.ok (.iface 275 (.agg #[.pointer (some ⟨7,132,none⟩)])) w:=by kernel_rfl
theorem b0R(w:World):(ReflectliteType.relation "AssignableTo" ReflectliteType.assignableTo #[.agg #[.pointer (some ⟨7,132,none⟩)],.iface 275 (.agg #[.pointer (some ⟨7,132,none⟩)])]).run Tryz.prog w=.ok (.bool true) w:=by kernel_rfl
theorem b53(e:Addr)(w:World):(ReflectliteValue.unpack (.iface 132 (.pointer (some e)))).run Tryz.prog w
 = .ok (.agg #[.pointer (some ⟨7,132,none⟩),.pointer (some ⟨w.heap.size,0,none⟩),.int .u64 150]) (w.alloc (.cells #[.pointer (some e)] 132)):=by kernel_rfl
theorem b8d(w:World):(Rtype.elem? 162).run Tryz.prog w=.ok (some 132) w:=by kernel_rfl
theorem c5l(p:Addr)(w:World):(ReflectliteValue.mk 132 p ReflectliteValue.flagAddr).run Tryz.prog w=.ok (.agg #[.pointer (some ⟨7,132,none⟩),.pointer (some p),.int .u64 406]) w:=by kernel_rfl
theorem c2V(a p:Addr)(W:World)(ha:W.cell? a=some (.pointer (some p))):
 (ReflectliteValue.method (ReflectliteValue.valueError "reflectlite.Value.Elem" 0) ReflectliteValue.elem #[.agg #[.pointer (some ⟨7,162,none⟩),.pointer (some a),.int .u64 150]]).run Tryz.prog W
  = .ok (.agg #[.pointer (some ⟨7,132,none⟩),.pointer (some p),.int .u64 406]) W:=by
 rw[rlm];simp only[Sem.run_bind,b5j,Result.andThen];simp[ReflectliteValue.elem,loadVar,isAgg,underlying,Tryz.underlying162,ha,Result.andThen,b8d,c5l]
theorem b8e(a:Addr)(w:World):(ReflectliteValue.parts (.agg #[.pointer (some ⟨7,132,none⟩),.pointer (some a),.int .u64 406])).run Tryz.prog w=.ok (some (132,a,406)) w:=by kernel_rfl
theorem c0Z(a:Addr)(w:World):(ReflectliteValue.parts (.agg #[.pointer (some ⟨7,132,none⟩),.pointer (some a),.int .u64 150])).run Tryz.prog w=.ok (some (132,a,150)) w:=by kernel_rfl
theorem b8f(w:World):(Rtype.directlyAssignable 132 132).run Tryz.prog w=.ok true w:=by kernel_rfl
theorem c4g(ta b:Addr)(e:Addr)(old:Value)(W:World)(hb:W.cell? b=some (.pointer (some e)))(ht:W.cell? ta=some old)(hf:W.frozen? ta=false):
 (ReflectliteValue.set #[.agg #[.pointer (some ⟨7,132,none⟩),.pointer (some ta),.int .u64 406],.agg #[.pointer (some ⟨7,132,none⟩),.pointer (some b),.int .u64 150]]).run Tryz.prog W
  = .ok (.tuple #[]) (W.setCell ta (.pointer (some e))):=by
 rw[rls];simp only[Sem.run_bind,b8e,c0Z,Result.andThen];simp[ReflectliteValue.flagAddr,loadVar,isAgg,underlying,Tryz.underlying132,hb,Result.andThen,b8f,storeVar,Value.cells,storeCells,Addr.add];rw[run_store Tryz.prog W ta _ _ (by rfl)];simp[ht,hf]
theorem b54(t:Addr)(w:World):(ReflectliteValue.unpack (.iface 163 (.pointer (some t)))).run Tryz.prog w
 = .ok (.agg #[.pointer (some ⟨7,163,none⟩),.pointer (some ⟨w.heap.size,0,none⟩),.int .u64 150]) (w.alloc (.cells #[.pointer (some t)] 163)):=by kernel_rfl
theorem c2W(a:Addr)(w:World):(ReflectliteValue.methodAny (ReflectliteValue.valueError "reflectlite.Value.Type" 0) (fun t _ _ _=>ReflectliteType.toType t) #[.agg #[.pointer (some ⟨7,163,none⟩),.pointer (some a),.int .u64 150]]).run Tryz.prog w
 = .ok (.iface 275 (.agg #[.pointer (some ⟨7,163,none⟩)])) w:=by kernel_rfl
theorem c2X(w:World):((ReflectliteType.abiMethod fun t=>Functor.map (fun a:Nat=>Value.int IntKind.u8 (a:Int)) (Rtype.kind t)) #[.pointer (some ⟨7,163,none⟩)]).run Tryz.prog w=.ok (.int .u8 22) w:=by kernel_rfl
theorem c2Y(w:World):((ReflectliteType.abiMethod fun t=>Functor.map (fun a:Nat=>Value.int IntKind.u8 (a:Int)) (Rtype.kind t)) #[.pointer (some ⟨7,37,none⟩)]).run Tryz.prog w=.ok (.int .u8 2) w:=by kernel_rfl
theorem b5l(a:Addr)(w:World):(ReflectliteValue.parts (.agg #[.pointer (some ⟨7,163,none⟩),.pointer (some a),.int .u64 150])).run Tryz.prog w=.ok (some (163,a,150)) w:=by kernel_rfl
theorem c02(a p:Addr)(W:World)(ha:W.cell? a=some (.pointer (some p))):
 (ReflectliteValue.method (ReflectliteValue.valueError "reflectlite.Value.IsNil" 0) ReflectliteValue.isNil #[.agg #[.pointer (some ⟨7,163,none⟩),.pointer (some a),.int .u64 150]]).run Tryz.prog W=.ok (.bool false) W:=by
 rw[rlm];simp only[Sem.run_bind,b5l,Result.andThen];simp[ReflectliteValue.isNil,loadVar,isAgg,underlying,Tryz.underlying163,ha,Result.andThen]
theorem c2Z(w:World):(ReflectliteType.method ReflectliteType.elem #[.agg #[.pointer (some ⟨7,163,none⟩)]]).run Tryz.prog w=.ok (.iface 275 (.agg #[.pointer (some ⟨7,37,none⟩)])) w:=by kernel_rfl
theorem b0S(w:World):(ReflectliteType.relation "Implements" ReflectliteType.implements_ #[.agg #[.pointer (some ⟨7,37,none⟩)],.iface 275 (.agg #[.pointer (some ⟨7,34,none⟩)])]).run Tryz.prog w=.ok (.bool true) w:=by kernel_rfl
theorem a5i(v:Value)(w:World):(ReflectliteType.typeOf #[.iface 37 v]).run Tryz.prog w=.ok (.iface 275 (.agg #[.pointer (some ⟨7,37,none⟩)])) w:=by kernel_rfl
theorem b0T(w:World):(ReflectliteType.relation "AssignableTo" ReflectliteType.assignableTo #[.agg #[.pointer (some ⟨7,37,none⟩)],.iface 275 (.agg #[.pointer (some ⟨7,37,none⟩)])]).run Tryz.prog w=.ok (.bool true) w:=by kernel_rfl
theorem b55(n:Int)(w:World):(ReflectliteValue.unpack (.iface 37 (.int .i64 n))).run Tryz.prog w
 = .ok (.agg #[.pointer (some ⟨7,37,none⟩),.pointer (some ⟨w.heap.size,0,none⟩),.int .u64 130]) (w.alloc (.cells #[.int .i64 n] 37)):=by kernel_rfl
theorem b8g(w:World):(Rtype.elem? 163).run Tryz.prog w=.ok (some 37) w:=by kernel_rfl
theorem c5m(p:Addr)(w:World):(ReflectliteValue.mk 37 p ReflectliteValue.flagAddr).run Tryz.prog w=.ok (.agg #[.pointer (some ⟨7,37,none⟩),.pointer (some p),.int .u64 386]) w:=by kernel_rfl
theorem c22(a p:Addr)(W:World)(ha:W.cell? a=some (.pointer (some p))):
 (ReflectliteValue.method (ReflectliteValue.valueError "reflectlite.Value.Elem" 0) ReflectliteValue.elem #[.agg #[.pointer (some ⟨7,163,none⟩),.pointer (some a),.int .u64 150]]).run Tryz.prog W
  = .ok (.agg #[.pointer (some ⟨7,37,none⟩),.pointer (some p),.int .u64 386]) W:=by
 rw[rlm];simp only[Sem.run_bind,b5l,Result.andThen];simp[ReflectliteValue.elem,loadVar,isAgg,underlying,Tryz.underlying163,ha,Result.andThen,b8g,c5m]
theorem b8h(a:Addr)(w:World):(ReflectliteValue.parts (.agg #[.pointer (some ⟨7,37,none⟩),.pointer (some a),.int .u64 386])).run Tryz.prog w=.ok (some (37,a,386)) w:=by kernel_rfl
theorem c04(a:Addr)(w:World):(ReflectliteValue.parts (.agg #[.pointer (some ⟨7,37,none⟩),.pointer (some a),.int .u64 130])).run Tryz.prog w=.ok (some (37,a,130)) w:=by kernel_rfl
theorem b8i(w:World):(Rtype.directlyAssignable 37 37).run Tryz.prog w=.ok true w:=by kernel_rfl
theorem c4h(ta b:Addr)(n:Int)(old:Value)(W:World)(hb:W.cell? b=some (.int .i64 n))(ht:W.cell? ta=some old)(hf:W.frozen? ta=false):
 (ReflectliteValue.set #[.agg #[.pointer (some ⟨7,37,none⟩),.pointer (some ta),.int .u64 386],.agg #[.pointer (some ⟨7,37,none⟩),.pointer (some b),.int .u64 130]]).run Tryz.prog W
  = .ok (.tuple #[]) (W.setCell ta (.int .i64 n)):=by
 rw[rls];simp only[Sem.run_bind,b8h,c04,Result.andThen];simp[ReflectliteValue.flagAddr,loadVar,isAgg,underlying,Tryz.underlying37,hb,Result.andThen,b8i,storeVar,Value.cells,storeCells,Addr.add];rw[run_store Tryz.prog W ta _ _ (by rfl)];simp[ht,hf]
theorem b0U(w:World):(ReflectliteType.relation "AssignableTo" ReflectliteType.assignableTo #[.agg #[.pointer (some ⟨7,37,none⟩)],.iface 275 (.agg #[.pointer (some ⟨7,132,none⟩)])]).run Tryz.prog w=.ok (.bool false) w:=by kernel_rfl
end
section
open Go.RowKit Go.Extern.Stop Go.Stop Go.Extern
theorem c05(e:Addr)(t:Addr)(old:Value)(w:World)(hg:w.cell? ⟨0,0,none⟩=some (.iface 275 (.agg #[.pointer (some ⟨7,34,none⟩)])))(ht0:w.cell? t=some old)(hf0:w.frozen? t=false):
 Calls Tryz.prog 65 #[.iface 132 (.pointer (some e)),.iface 162 (.pointer (some t))] w fun ev w'=>ev=.returned (.bool true)/\w'=((((w.alloc (.cells #[.pointer (some t)] 162)).alloc (.cells #[.pointer (some ⟨7,162,none⟩),.pointer (some ⟨w.heap.size,0,none⟩),.int .u64 150] 228)).alloc (.cells #[.pointer (some ⟨7,162,none⟩),.pointer (some ⟨w.heap.size,0,none⟩),.int .u64 150] 228)).alloc (.cells #[.pointer (some e)] 132)).setCell t (.pointer (some e)):=by
 have h1:=@run_callFunc_extern Tryz.prog 119 _ (fun args=>ReflectliteValue.unpack (args.getD 0 (.tuple #[]))) Tryz.func119 (by kernel_rfl) (by kernel_rfl) (by kernel_rfl) (by kernel_rfl);have h2:=@run_callFunc_extern Tryz.prog 120 _ (ReflectliteValue.methodAny (ReflectliteValue.valueError "reflectlite.Value.Type" 0) (fun t _ _ _=>ReflectliteType.toType t)) Tryz.func120 (by kernel_rfl) (by kernel_rfl) (by kernel_rfl) (by kernel_rfl);have h3:=@run_callFunc_extern Tryz.prog 121 _ (ReflectliteValue.method (ReflectliteValue.valueError "reflectlite.Value.IsNil" 0) ReflectliteValue.isNil) Tryz.func121 (by kernel_rfl) (by kernel_rfl) (by kernel_rfl) (by kernel_rfl);have h4:=@run_callFunc_extern Tryz.prog 248 _ (ReflectliteType.abiMethod fun t=>do pure (.int .u8 (<-Rtype.kind t))) Tryz.func248 (by kernel_rfl) (by kernel_rfl) (by kernel_rfl) (by kernel_rfl);have h5:=@run_callFunc_extern Tryz.prog 261 _ (ReflectliteType.method ReflectliteType.elem) Tryz.func261 (by kernel_rfl) (by kernel_rfl) (by kernel_rfl) (by kernel_rfl);have h6:=@run_callFunc_extern Tryz.prog 262 _ (ReflectliteType.relation "Implements" ReflectliteType.implements_) Tryz.func262 (by kernel_rfl) (by kernel_rfl) (by kernel_rfl) (by kernel_rfl);have h7:=@run_callFunc_extern Tryz.prog 97 _ ReflectliteType.typeOf Tryz.func97 (by kernel_rfl) (by kernel_rfl) (by kernel_rfl) (by kernel_rfl);have h8:=@run_callFunc_extern Tryz.prog 259 _ (ReflectliteType.relation "AssignableTo" ReflectliteType.assignableTo) Tryz.func259 (by kernel_rfl) (by kernel_rfl) (by kernel_rfl) (by kernel_rfl);have h9:=@run_callFunc_extern Tryz.prog 162 _ (ReflectliteValue.method (ReflectliteValue.valueError "reflectlite.Value.Elem" 0) ReflectliteValue.elem) Tryz.func162 (by kernel_rfl) (by kernel_rfl) (by kernel_rfl) (by kernel_rfl);have h10:=@run_callFunc_extern Tryz.prog 163 _ ReflectliteValue.set Tryz.func163 (by kernel_rfl) (by kernel_rfl) (by kernel_rfl) (by kernel_rfl);have tO:=b8c;have mA:=methodAssignableTo;have a25:=b0R;have v25:=b53;have f6:=a9U;have f7:=b78;have mK:=methodKind;have mE:=methodElem;have mI:=methodImplements;have k27:=b79;have k25:=b8a;have e27:=b8b;have i25:=a5h;have n8:=b5k ⟨w.heap.size,0,none⟩ t ((w.alloc (.cells #[.pointer (some t)] 162)).alloc (.cells #[.pointer (some ⟨7,162,none⟩),.pointer (some ⟨w.heap.size,0,none⟩),.int .u64 150] 228)) (by simp);have hlt:=World.block_lt_of_cell? w _ hg;have hg2:((w.alloc (.cells #[.pointer (some t)] 162)).alloc (.cells #[.pointer (some ⟨7,162,none⟩),.pointer (some ⟨w.heap.size,0,none⟩),.int .u64 150] 228)).cell? ⟨0,0,none⟩=some (.iface 275 (.agg #[.pointer (some ⟨7,34,none⟩)])):=by
  rw[World.cell?_alloc_lt _ _ ⟨0,0,none⟩ (by simp),World.cell?_alloc_lt _ _ ⟨0,0,none⟩ hlt];exact hg
 have htl:=World.block_lt_of_cell? w _ ht0;have el:=c2V ⟨w.heap.size,0,none⟩ t (((w.alloc (.cells #[.pointer (some t)] 162)).alloc (.cells #[.pointer (some ⟨7,162,none⟩),.pointer (some ⟨w.heap.size,0,none⟩),.int .u64 150] 228)).alloc (.cells #[.pointer (some ⟨7,162,none⟩),.pointer (some ⟨w.heap.size,0,none⟩),.int .u64 150] 228)) (by rw[World.cell?_alloc_lt _ _ ⟨w.heap.size,0,none⟩ (by simp;omega)];simp);have st:=c4g t ⟨w.heap.size+1+1+1,0,none⟩ e old ((((w.alloc (.cells #[.pointer (some t)] 162)).alloc (.cells #[.pointer (some ⟨7,162,none⟩),.pointer (some ⟨w.heap.size,0,none⟩),.int .u64 150] 228)).alloc (.cells #[.pointer (some ⟨7,162,none⟩),.pointer (some ⟨w.heap.size,0,none⟩),.int .u64 150] 228)).alloc (.cells #[.pointer (some e)] 132))
  (by rw[World.cell?_alloc_at _ _ _ _ (by simp)];rfl)
  (by rw[World.cell?_alloc_lt _ _ t (by simp;omega),World.cell?_alloc_lt _ _ t (by simp;omega),World.cell?_alloc_lt _ _ t (by simp;omega),World.cell?_alloc_lt _ _ t htl];exact ht0)
  (by rw[World.frozen?_alloc_old _ _ t (by simp;omega),World.frozen?_alloc_old _ _ t (by simp;omega),World.frozen?_alloc_old _ _ t (by simp;omega),World.frozen?_alloc_old _ _ t (Nat.ne_of_lt htl)];exact hf0)
 go_enter Tryz.func65,Tryz.ntmps65
 go_wp2;refine wp_loop_rounds 1 ?_;rw[rounds_succ];go_wp2;go_ret;exact⟨rfl,rfl⟩
theorem c06(n:Int)(t:Addr)(old:Value)(w:World)(hg:w.cell? ⟨0,0,none⟩=some (.iface 275 (.agg #[.pointer (some ⟨7,34,none⟩)])))(ht0:w.cell? t=some old)(hf0:w.frozen? t=false):
 Calls Tryz.prog 65 #[.iface 37 (.int .i64 n),.iface 163 (.pointer (some t))] w fun ev w'=>ev=.returned (.bool true)/\w'=((((w.alloc (.cells #[.pointer (some t)] 163)).alloc (.cells #[.pointer (some ⟨7,163,none⟩),.pointer (some ⟨w.heap.size,0,none⟩),.int .u64 150] 228)).alloc (.cells #[.pointer (some ⟨7,163,none⟩),.pointer (some ⟨w.heap.size,0,none⟩),.int .u64 150] 228)).alloc (.cells #[.int .i64 n] 37)).setCell t (.int .i64 n):=by
 have h1:=@run_callFunc_extern Tryz.prog 119 _ (fun args=>ReflectliteValue.unpack (args.getD 0 (.tuple #[]))) Tryz.func119 (by kernel_rfl) (by kernel_rfl) (by kernel_rfl) (by kernel_rfl);have h2:=@run_callFunc_extern Tryz.prog 120 _ (ReflectliteValue.methodAny (ReflectliteValue.valueError "reflectlite.Value.Type" 0) (fun t _ _ _=>ReflectliteType.toType t)) Tryz.func120 (by kernel_rfl) (by kernel_rfl) (by kernel_rfl) (by kernel_rfl);have h3:=@run_callFunc_extern Tryz.prog 121 _ (ReflectliteValue.method (ReflectliteValue.valueError "reflectlite.Value.IsNil" 0) ReflectliteValue.isNil) Tryz.func121 (by kernel_rfl) (by kernel_rfl) (by kernel_rfl) (by kernel_rfl);have h4:=@run_callFunc_extern Tryz.prog 248 _ (ReflectliteType.abiMethod fun t=>do pure (.int .u8 (<-Rtype.kind t))) Tryz.func248 (by kernel_rfl) (by kernel_rfl) (by kernel_rfl) (by kernel_rfl);have h5:=@run_callFunc_extern Tryz.prog 261 _ (ReflectliteType.method ReflectliteType.elem) Tryz.func261 (by kernel_rfl) (by kernel_rfl) (by kernel_rfl) (by kernel_rfl);have h6:=@run_callFunc_extern Tryz.prog 262 _ (ReflectliteType.relation "Implements" ReflectliteType.implements_) Tryz.func262 (by kernel_rfl) (by kernel_rfl) (by kernel_rfl) (by kernel_rfl);have h7:=@run_callFunc_extern Tryz.prog 97 _ ReflectliteType.typeOf Tryz.func97 (by kernel_rfl) (by kernel_rfl) (by kernel_rfl) (by kernel_rfl);have h8:=@run_callFunc_extern Tryz.prog 259 _ (ReflectliteType.relation "AssignableTo" ReflectliteType.assignableTo) Tryz.func259 (by kernel_rfl) (by kernel_rfl) (by kernel_rfl) (by kernel_rfl);have h9:=@run_callFunc_extern Tryz.prog 162 _ (ReflectliteValue.method (ReflectliteValue.valueError "reflectlite.Value.Elem" 0) ReflectliteValue.elem) Tryz.func162 (by kernel_rfl) (by kernel_rfl) (by kernel_rfl) (by kernel_rfl);have h10:=@run_callFunc_extern Tryz.prog 163 _ ReflectliteValue.set Tryz.func163 (by kernel_rfl) (by kernel_rfl) (by kernel_rfl) (by kernel_rfl);have tO:=a5i;have mA:=methodAssignableTo;have a25:=b0T;have v25:=b55;have f6:=b54;have f7:=c2W;have mK:=methodKind;have mE:=methodElem;have mI:=methodImplements;have k27:=c2X;have k25:=c2Y;have e27:=c2Z;have i25:=b0S;have n8:=c02 ⟨w.heap.size,0,none⟩ t ((w.alloc (.cells #[.pointer (some t)] 163)).alloc (.cells #[.pointer (some ⟨7,163,none⟩),.pointer (some ⟨w.heap.size,0,none⟩),.int .u64 150] 228)) (by simp);have hlt:=World.block_lt_of_cell? w _ hg;have hg2:((w.alloc (.cells #[.pointer (some t)] 163)).alloc (.cells #[.pointer (some ⟨7,163,none⟩),.pointer (some ⟨w.heap.size,0,none⟩),.int .u64 150] 228)).cell? ⟨0,0,none⟩=some (.iface 275 (.agg #[.pointer (some ⟨7,34,none⟩)])):=by
  rw[World.cell?_alloc_lt _ _ ⟨0,0,none⟩ (by simp),World.cell?_alloc_lt _ _ ⟨0,0,none⟩ hlt];exact hg
 have htl:=World.block_lt_of_cell? w _ ht0;have el:=c22 ⟨w.heap.size,0,none⟩ t (((w.alloc (.cells #[.pointer (some t)] 163)).alloc (.cells #[.pointer (some ⟨7,163,none⟩),.pointer (some ⟨w.heap.size,0,none⟩),.int .u64 150] 228)).alloc (.cells #[.pointer (some ⟨7,163,none⟩),.pointer (some ⟨w.heap.size,0,none⟩),.int .u64 150] 228)) (by rw[World.cell?_alloc_lt _ _ ⟨w.heap.size,0,none⟩ (by simp;omega)];simp);have st:=c4h t ⟨w.heap.size+1+1+1,0,none⟩ n old ((((w.alloc (.cells #[.pointer (some t)] 163)).alloc (.cells #[.pointer (some ⟨7,163,none⟩),.pointer (some ⟨w.heap.size,0,none⟩),.int .u64 150] 228)).alloc (.cells #[.pointer (some ⟨7,163,none⟩),.pointer (some ⟨w.heap.size,0,none⟩),.int .u64 150] 228)).alloc (.cells #[.int .i64 n] 37))
  (by rw[World.cell?_alloc_at _ _ _ _ (by simp)];rfl)
  (by rw[World.cell?_alloc_lt _ _ t (by simp;omega),World.cell?_alloc_lt _ _ t (by simp;omega),World.cell?_alloc_lt _ _ t (by simp;omega),World.cell?_alloc_lt _ _ t htl];exact ht0)
  (by rw[World.frozen?_alloc_old _ _ t (by simp;omega),World.frozen?_alloc_old _ _ t (by simp;omega),World.frozen?_alloc_old _ _ t (by simp;omega),World.frozen?_alloc_old _ _ t (Nat.ne_of_lt htl)];exact hf0)
 go_enter Tryz.func65,Tryz.ntmps65
 go_wp2;refine wp_loop_rounds 1 ?_;rw[rounds_succ];go_wp2;go_ret;exact⟨rfl,rfl⟩
end
section
open Go.RowKit Go.Extern.Stop Go.Stop Go.Extern
theorem c07(n:Int)(t:Addr)(w:World)(hg:w.cell? ⟨0,0,none⟩=some (.iface 275 (.agg #[.pointer (some ⟨7,34,none⟩)]))):
 Calls Tryz.prog 65 #[.iface 37 (.int .i64 n),.iface 162 (.pointer (some t))] w fun ev w'=>ev=.returned (.bool false)/\Below w.heap.size w w':=by
 have h1:=@run_callFunc_extern Tryz.prog 119 _ (fun args=>ReflectliteValue.unpack (args.getD 0 (.tuple #[]))) Tryz.func119 (by kernel_rfl) (by kernel_rfl) (by kernel_rfl) (by kernel_rfl);have h2:=@run_callFunc_extern Tryz.prog 120 _ (ReflectliteValue.methodAny (ReflectliteValue.valueError "reflectlite.Value.Type" 0) (fun t _ _ _=>ReflectliteType.toType t)) Tryz.func120 (by kernel_rfl) (by kernel_rfl) (by kernel_rfl) (by kernel_rfl);have h3:=@run_callFunc_extern Tryz.prog 121 _ (ReflectliteValue.method (ReflectliteValue.valueError "reflectlite.Value.IsNil" 0) ReflectliteValue.isNil) Tryz.func121 (by kernel_rfl) (by kernel_rfl) (by kernel_rfl) (by kernel_rfl);have h4:=@run_callFunc_extern Tryz.prog 248 _ (ReflectliteType.abiMethod fun t=>do pure (.int .u8 (<-Rtype.kind t))) Tryz.func248 (by kernel_rfl) (by kernel_rfl) (by kernel_rfl) (by kernel_rfl);have h5:=@run_callFunc_extern Tryz.prog 261 _ (ReflectliteType.method ReflectliteType.elem) Tryz.func261 (by kernel_rfl) (by kernel_rfl) (by kernel_rfl) (by kernel_rfl);have h6:=@run_callFunc_extern Tryz.prog 262 _ (ReflectliteType.relation "Implements" ReflectliteType.implements_) Tryz.func262 (by kernel_rfl) (by kernel_rfl) (by kernel_rfl) (by kernel_rfl);have h7:=@run_callFunc_extern Tryz.prog 97 _ ReflectliteType.typeOf Tryz.func97 (by kernel_rfl) (by kernel_rfl) (by kernel_rfl) (by kernel_rfl);have h8:=@run_callFunc_extern Tryz.prog 259 _ (ReflectliteType.relation "AssignableTo" ReflectliteType.assignableTo) Tryz.func259 (by kernel_rfl) (by kernel_rfl) (by kernel_rfl) (by kernel_rfl);have h9:=@run_callFunc_extern Tryz.prog 162 _ (ReflectliteValue.method (ReflectliteValue.valueError "reflectlite.Value.Elem" 0) ReflectliteValue.elem) Tryz.func162 (by kernel_rfl) (by kernel_rfl) (by kernel_rfl) (by kernel_rfl);have h10:=@run_callFunc_extern Tryz.prog 163 _ ReflectliteValue.set Tryz.func163 (by kernel_rfl) (by kernel_rfl) (by kernel_rfl) (by kernel_rfl);have tO:=a5i;have mA:=methodAssignableTo;have tA1:=run_typeAssert_lacksB (P:=Tryz.prog) (z:=.nilIface) (t:=37) (asserted:=292) rfl (by kernel_rfl) (by kernel_rfl);have tA2:=run_typeAssert_lacksB (P:=Tryz.prog) (z:=.nilIface) (t:=37) (asserted:=280) rfl (by kernel_rfl) (by kernel_rfl);have tA3:=run_typeAssert_lacksB (P:=Tryz.prog) (z:=.nilIface) (t:=37) (asserted:=281) rfl (by kernel_rfl) (by kernel_rfl);have a25:=b0U;have f6:=a9U;have f7:=b78;have mK:=methodKind;have mE:=methodElem;have mI:=methodImplements;have k27:=b79;have k25:=b8a;have e27:=b8b;have i25:=a5h;have n8:=b5k ⟨w.heap.size,0,none⟩ t ((w.alloc (.cells #[.pointer (some t)] 162)).alloc (.cells #[.pointer (some ⟨7,162,none⟩),.pointer (some ⟨w.heap.size,0,none⟩),.int .u64 150] 228)) (by simp);have hlt:=World.block_lt_of_cell? w _ hg;have hg2:((w.alloc (.cells #[.pointer (some t)] 162)).alloc (.cells #[.pointer (some ⟨7,162,none⟩),.pointer (some ⟨w.heap.size,0,none⟩),.int .u64 150] 228)).cell? ⟨0,0,none⟩=some (.iface 275 (.agg #[.pointer (some ⟨7,34,none⟩)])):=by
  rw[World.cell?_alloc_lt _ _ ⟨0,0,none⟩ (by simp),World.cell?_alloc_lt _ _ ⟨0,0,none⟩ hlt];exact hg
 go_enter Tryz.func65,Tryz.ntmps65
 go_wp2;refine wp_loop_rounds 1 ?_;rw[rounds_succ];go_wp2;go_ret;exact⟨rfl,(((Ext.refl w).new _).new _).new _⟩
end
section
open Go.RowKit
theorem Ext.trans'{a b c:World}{B:Nat}(h:Ext a b)(k:Below B b c)(hB:a.heap.size<=B:=by first|exact Nat.le_refl _|omega|(have:=Below.size (by assumption);simp at *;omega)):Ext a c:=Below.trans h (k.mono hB)
def Laid(w:World):Prop:=w.cell? ⟨0,0,none⟩=some (.iface 275 (.agg #[.pointer (some ⟨7,34,none⟩)]))
theorem Laid.ext{w w':World}(h:Laid w)(he:Ext w w'):Laid w':=he.cell h
def c2P(t:Addr)(v:Value)(w:World)(e:Ending)(w':World):Prop:=e=.returned (.bool true)/\w'.cell? t=some v/\Below t.block w w'
theorem c0k{t:Addr}{v old:Value}{w w1:World}(ht:w.cell? t=some old)(h:Ext w w1):(w1.setCell t v).cell? t=some v/\Below t.block w (w1.setCell t v):=
 ⟨World.cell?_setCell_same w1 t v (h.cell ht),(h.mono (Nat.le_of_lt (World.block_lt_of_cell? w t ht))).setCell (Nat.le_refl _) _⟩
theorem c0l(n:Int)(t:Addr)(old:Value)(w:World)(h:Laid w)(ht:w.cell? t=some old)(hf:w.frozen? t=false):
 Calls Tryz.prog 65 #[.iface 37 (.int .i64 n),.iface 163 (.pointer (some t))] w (c2P t (.int .i64 n) w):=by
 refine(c06 n t old w h ht hf).mono ?_;rintro e w' ⟨rfl,rfl⟩;exact⟨rfl,c0k ht ((((Ext.refl w).new _).new _).new _ |>.new _)⟩
theorem c0n(a:Addr)(t:Addr)(old:Value)(w:World)(h:Laid w)(ht:w.cell? t=some old)(hf:w.frozen? t=false):
 Calls Tryz.prog 65 #[.iface 132 (.pointer (some a)),.iface 162 (.pointer (some t))] w (c2P t (.pointer (some a)) w):=by
 refine(c05 a t old w h ht hf).mono ?_;rintro e w' ⟨rfl,rfl⟩;exact⟨rfl,c0k ht ((((Ext.refl w).new _).new _).new _ |>.new _)⟩
theorem c0o(w:World):
 Calls Tryz.prog 15 #[.nilIface] w fun e w'=>e=.returned (.tuple #[.int .i64 0,.string ⟨#[]⟩])/\Ext w w':=by
 go_enter Tryz.func15,Tryz.ntmps15
 go_wp2;go_ret2
 exact⟨rfl,((Ext.refl w).new _).new _⟩
theorem c0p(n:Int)(w:World)(h:Laid w):
 Calls Tryz.prog 15 #[.iface 37 (.int .i64 n)] w fun e w'=>e=.returned (.tuple #[.int .i64 n,.string ⟨#[]⟩])/\Ext w w':=by
 have H:=Lib.hid h;clear h;go_enter Tryz.func15,Tryz.ntmps15
 go_wp2_with fail
 refine(c07 n _ _ (Laid.ext H.out (((Ext.refl w).new _).new _))).mono ?_;rintro e w1 ⟨rfl,hb1⟩;have hE1:Ext w w1:=(((Ext.refl w).new (.cells #[.int .i64 0] 37)).new (.cells #[.pointer none] 132)).trans hb1;have hc0:w1.cell? ⟨w.heap.size,0,none⟩=some (.int .i64 0):=(Below.cell hb1 (by simp;omega)).trans (by simp);have hf0:w1.frozen? ⟨w.heap.size,0,none⟩=false:=(Below.frozen hb1 (by simp;omega)).trans (by simp);go_wp2_with fail
 refine(c0l n _ (.int .i64 0) _ (Laid.ext H.out hE1) hc0 hf0).mono ?_;rintro e w2 ⟨rfl,hc2,hb2⟩;go_wp2_with fail
 go_ret2
 exact⟨rfl,hE1.trans' hb2⟩
theorem b7x(a:Addr)(name:ByteArray)(n:Int)(w:World)(h:Laid w)(h0:w.cell? a=some (.string name))(h1:w.cell? ⟨a.block,a.off+1,none⟩=some (.int .i64 n)):
 Calls Tryz.prog 15 #[.iface 132 (.pointer (some a))] w fun e w'=>e=.returned (.tuple #[.int .i64 n,.string name])/\Ext w w':=by
 have H:=Lib.hid h;clear h;go_enter Tryz.func15,Tryz.ntmps15
 go_wp2_with fail
 refine(c0n a ⟨w.heap.size+1,0,none⟩ (.pointer none) _ (Laid.ext H.out (((Ext.refl w).new _).new _)) (by simp) (by simp)).mono ?_;rintro e w1 ⟨rfl,hc1,hb1⟩;have hb1':Below (w.heap.size+1) ((w.alloc (.cells #[.int .i64 0] 37)).alloc (.cells #[.pointer none] 132)) w1:=hb1;have hE1:Ext w w1:=Below.trans (((Ext.refl w).new (.cells #[.int .i64 0] 37)).new (.cells #[.pointer none] 132)) (hb1'.mono (by omega));have h01:=hE1.cell h0;have h11:=hE1.cell h1;clear h0 h1;go_wp2;go_quiet (fail)
 go_wp2;go_ret2
 exact⟨rfl,hE1.trans (Ext.drewN _ _)⟩
end
section
open Go.RowKit Pl
theorem a3o{c d:Nat}{x y:Int}(hx:x=c)(hy:y=d)(hc:c<4294967296)(hd:d<4294967296):
 bits BinOp.xor IntKind.u32 x y=((c ^^^ d:Nat):Int):=by
 rw[hx,hy];exact u32_xor_nat c d hc hd
theorem c0i{D:Nat}(hD:D<4294967296):
 bits BinOp.xor IntKind.u32 ((D:Int)/2) (bits BinOp.and IntKind.u32 (D:Int) 1*3988292384%4294967296)=(a1g D:Int):=by
 have h1:bits BinOp.and IntKind.u32 (D:Int) 1=((D%2:Nat):Int):=by
  have:=u32_and_nat D 1 hD (by omega);rw[nat_mask1] at this;exact this
 rw[h1];unfold a1g;by_cases hb:D%2=1
 ·rw[if_pos hb,hb];exact a3o (by omega) (by omega) (by omega) (by omega)
 ·rw[if_neg hb,show D%2=0 by omega];exact a3o (by omega) (by omega) (by omega) (by omega)
theorem c2d{D:Nat}(hD:D<4294967296)(h:D%2=1):bits BinOp.xor IntKind.u32 ((D:Int)/2) 3988292384=(a1g D:Int):=by
 unfold a1g;rw[if_pos h];exact a3o (by omega) (by omega) (by omega) (by omega)
theorem c0j{D:Nat}(h:¬D%2=1):(D:Int)/2=(a1g D:Int):=by
 unfold a1g;rw[if_neg h,Nat.xor_zero];omega
theorem sum_any(v:Value)(l:List UInt8)(w:World)(h:Bytes w v l):
 Calls Tryz.prog 128 #[v] w fun e w'=>e=.returned (.int .u32 (crc l))/\w=w':=by
 obtain⟨a,cap,rfl,hc,hc',hcell⟩:=h.open;go_enter Tryz.func128,Tryz.ntmps128
 go_wp2;go_loop [3,8] (fun c i=>∃k:Nat,k<=l.length/\i=.int .i64 k/\c=.int .u32 (X8 4294967295 (l.take k))) (fun _ i=>l.length - (intOf i).toNat)
 case atStart=>exact⟨0,Nat.zero_le _,rfl,rfl⟩
 case round=>
  obtain⟨k,hk,rfl,rfl⟩:=hrel;by_cases hlt:k<l.length
  ·obtain⟨b,rfl,hb⟩:=hcell k hlt;have hs:Hid (X8 4294967295 (l.take (k+1))=a1K (X8 4294967295 (l.take k)) l[k]):=by
    have e:X8 4294967295 (l.take (k+1))=a1K (X8 4294967295 (l.take k)) l[k]:=by rw[take_snoc l k hlt,a5H]
    exact e
   have hC:=a2f (l.take k) (c:=4294967295) (by omega);clear hcell;generalize X8 4294967295 (l.take k)=C at *;have hx:=b0t l[k];generalize l[k]=x at *;go_wp2;go_loop [3,16] (fun c i=>∃j:Nat,j<=8/\i=.int .i64 j/\c=.int .u32 (a0f j (C ^^^ x.toNat))) (fun _ i=>8 - (intOf i).toNat)
   case atStart=>exact⟨0,by omega,rfl,congrArg (Value.int .u32) (a3o rfl (by omega) hC (by omega))⟩
   case round=>
    obtain⟨j,hj,rfl,rfl⟩:=hrel;have hfin:8=j->a1K C x=a0f j (C ^^^ x.toNat):=by rintro rfl;rfl
    have hD:=a5b j (a8K hC (b:=x.toNat) (by omega));have hn:Hid (a0f (j+1) (C ^^^ x.toNat)=a1g (a0f j (C ^^^ x.toNat))):=a5G j _;generalize a0f j (C ^^^ x.toNat)=D at *;by_cases hjl:j<8
    ·go_wp2;go_round
     case rel=>
      refine⟨j+1,by omega,by go_num,?_⟩;rw[hn.out,c0i hD]
     case measure=>simp[intOf];omega
    ·go_wp2;go_round
     case rel=>exact⟨k+1,by omega,by go_num,by rw[hs.out];rw[hfin (by omega)]⟩
     case measure=>simp[intOf];omega
  ·go_wp2;go_ret;obtain rfl:k=l.length:=by omega
   refine⟨?_,rfl⟩;show Ending.returned (Value.int .u32 (bits BinOp.xor IntKind.u32 IntKind.u32.max _))=_;rw[List.take_length,show IntKind.u32.max=((4294967295:Nat):Int) from rfl,a3o rfl rfl (by omega) (a2f l (by omega)),Nat.xor_comm];rfl
theorem a2h(v:Value)(l:List UInt8)(w:World)(h:Bytes w v l):
 Calls Tryz.prog 76 #[v] w fun e w'=>e=.returned (.int .u32 (crc l))/\w=w':=by
 obtain⟨a,cap,rfl,hc,hc',hcell⟩:=h.open;go_enter Tryz.func76,Tryz.ntmps76
 go_wp2;go_loop [3,4] (fun c i=>∃k:Nat,k<=l.length/\i=.int .i64 k/\c=.int .u32 (X8 4294967295 (l.take k))) (fun _ i=>l.length - (intOf i).toNat)
 case atStart=>exact⟨0,Nat.zero_le _,rfl,rfl⟩
 case round=>
  obtain⟨k,hk,rfl,rfl⟩:=hrel;by_cases hlt:k<l.length
  ·obtain⟨b,rfl,hb⟩:=hcell k hlt;have hs:Hid (X8 4294967295 (l.take (k+1))=a1K (X8 4294967295 (l.take k)) l[k]):=by
    have e:X8 4294967295 (l.take (k+1))=a1K (X8 4294967295 (l.take k)) l[k]:=by rw[take_snoc l k hlt,a5H]
    exact e
   have hC:=a2f (l.take k) (c:=4294967295) (by omega);clear hcell;generalize X8 4294967295 (l.take k)=C at *;have hx:=b0t l[k];generalize l[k]=x at *;go_wp2;go_loop [3,5,6] (fun c i _=>∃j:Nat,j<=8/\i=.int .i64 j/\c=.int .u32 (a0f j (C ^^^ x.toNat))) (fun _ i _=>8 - (intOf i).toNat)
   case atStart=>exact⟨0,by omega,rfl,congrArg (Value.int .u32) (a3o rfl (by omega) hC (by omega))⟩
   case round=>
    obtain⟨j,hj,rfl,rfl⟩:=hrel;have hfin:8=j->a1K C x=a0f j (C ^^^ x.toNat):=by rintro rfl;rfl
    have hD:=a5b j (a8K hC (b:=x.toNat) (by omega));have hn:Hid (a0f (j+1) (C ^^^ x.toNat)=a1g (a0f j (C ^^^ x.toNat))):=a5G j _;generalize a0f j (C ^^^ x.toNat)=D at *;by_cases hjl:j<8
    ·by_cases hodd:D%2=1;all_goals
      have ho:(((D:Int)%2==1)=decide (D%2=1)):=by rw[Bool.eq_iff_iff];simp;omega
      simp only[hodd,decide_true,decide_false] at ho;go_wp2;go_round
      case rel=>
       refine⟨j+1,by omega,by go_num,?_⟩;rw[hn.out];first|rw[c2d hD hodd]|rw[<-c0j hodd]
      case measure=>simp[intOf];omega
    ·go_wp2;go_round
     case rel=>exact⟨k+1,by omega,by go_num,by rw[hs.out];rw[hfin (by omega)]⟩
     case measure=>simp[intOf];omega
  ·go_wp2;go_ret;obtain rfl:k=l.length:=by omega
   refine⟨?_,rfl⟩;show Ending.returned (Value.int .u32 (bits BinOp.xor IntKind.u32 _ _))=_;rw[List.take_length,show(4294967295:Int)=((4294967295:Nat):Int) from rfl,a3o rfl rfl (a2f l (by omega)) (by omega)];rfl
end
section
open Go.RowKit Go.Lib Pl
def c38(B:Nat)(l:List UInt8)(w:World)(e:Ending)(w':World):Prop:=∃v,e=.returned v/\OwnB w' B v l/\Below B w w'
end
section
open Go.RowKit Go.Lib Pl
def c3j(seq:Nat)(k v:ByteArray)(d:Bool):Value:=.agg #[.int .u64 seq,.string k,.string v,.bool d]
def Y5(n:Int):Value:=.iface 37 (.int .i64 n)
def o7(w:World)(n:Nat)(t:TypeId)(cs:Array Value):Prop:=w.heap[n]?=some (.cells cs t (0,0))
theorem o7.cell{w:World}{n:Nat}{t:TypeId}{cs:Array Value}(h:o7 w n t cs)(i:Nat):w.cell? ⟨n,i,none⟩=cs[i]?:=by
 unfold o7 at h;simp[World.cell?,h]
theorem o7.new{w:World}{n:Nat}(cs:Array Value)(t:TypeId)(h:w.heap.size=n):o7 (w.alloc (.cells cs t)) n t cs:=by
 subst h;exact heap_alloc_new w _
theorem o7.below{w w':World}{n B:Nat}{t:TypeId}{cs:Array Value}(h:o7 w n t cs)(hb:Below B w w')(hn:n<B):o7 w' n t cs:=
 (hb.block n hn).trans h
theorem o7.grown{w w':World}{n:Nat}{t:TypeId}{cs:Array Value}(h:o7 w n t cs){row:Option Nat}(hg:w.grownBy w' row)(hr:∀k,row=some k->n<k):o7 w' n t cs:=
 (hg.block n (lt_of_block h) (fun e=>by have:=hr n e.symm;omega)).trans h
theorem o7.alloc{w:World}{n:Nat}{t:TypeId}{cs:Array Value}(h:o7 w n t cs)(o:Obj):o7 (w.alloc o) n t cs:=
 (Below.heap_alloc w o n (lt_of_block h)).trans h
end
end Go.Proofs.YtgpbhjjajpbeeaaGreatDoor
